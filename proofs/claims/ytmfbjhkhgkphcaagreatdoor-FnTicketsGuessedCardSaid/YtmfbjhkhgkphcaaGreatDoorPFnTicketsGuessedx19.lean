-- Laid by this session's program gprint.py over the kit's print.
import Derived.Test.YtmfbjhkhgkphcaaGreatDoorSq
import Derived.Test.YtmfbjhkhgkphcaaGreatDoorZip
import Derived.Test.YtmfbjhkhgkphcaaGreatDoorPFnTicketsGuessedx6
import Derived.Test.YtmfbjhkhgkphcaaGreatDoorPFnTicketsGuessedx10
import Derived.Test.YtmfbjhkhgkphcaaGreatDoorPFnTicketsGuessedx15
namespace Go.Proofs.YtmfbjhkhgkphcaaGreatDoor.PFnTicketsGuessed
open Go.RowKit Go.Proofs.YtmfbjhkhgkphcaaGreatDoorW.PrintWords Go.Proofs.YtmfbjhkhgkphcaaGreatDoorW.PrintLast Go.Proofs.YtmfbjhkhgkphcaaGreatDoorW.PrintMore
attribute [local go_sem] max2_int min2_int max_two min_two max_three min_three max_four min_four   -- for this text's walks alone
set_option linter.unusedVariables false
set_option linter.unusedSimpArgs false
set_option maxRecDepth 100000
theorem zs19_0 {p : Prop} (h : p := by first | rfl | (simp; done) | (simp [*]; done)) : p := h
theorem zs19_1 {p : Prop} (h : p := by repeat (first | exact Drawn0.refl _ | apply Drawn0.step)) : p := h
theorem zs19_2 {p : Prop} (h : p := by have := HK1.out; omega) : p := h
theorem zs19_3 {p : Prop} (h : p := by repeat (first | (with_reducible first | exact HB.out | apply below_alloc | apply pw_below_drewN | apply below_drew1 | refine below_set ?_ GE452.out) | exact HB.out)) : p := h
theorem zs19_4 {p : Prop} (h : p := by first | rfl | (simp [errW_none, errW_some] <;> rfl) | (simp [*, errW_none, errW_some] <;> rfl)) : p := h
theorem zs19_5 {p : Prop} (h : p := by repeat (first | (with_reducible first | exact HB.out | apply below_alloc | apply pw_below_drewN | apply below_drew1 | refine below_set ?_ GE456.out | refine below_set ?_ GE457.out) | exact HB.out)) : p := h
theorem zs19_6 {p : Prop} (h : p := by first | exact Kd.R_nil _ _ _ _ _ | exact Kd.N_nil _ _ _ _ _ | exact Kd.V_nil _ _ _ _ _ | exact Kd.Q_nil _ _ _ _ _ | exact Kd.S_nil _ _ _ _ _) : p := h
theorem zs19_7 {p : Prop} (h : p := by repeat (first | exact HB.out | apply pw_below_drewN | apply below_drew1)) : p := h
theorem zs19_8 {p : Prop} (h : p := by first | rfl | (simp [*]; done)) : p := h
theorem zs19_9 {p : Prop} (h : p := by repeat (first | (with_reducible first | exact HB.out | apply below_alloc | apply pw_below_drewN | apply below_drew1 | refine below_set ?_ GE2.out) | exact HB.out)) : p := h
theorem zs19_10 {p : Prop} (h : p := by repeat (first | (with_reducible first | exact HB.out | apply below_alloc | apply pw_below_drewN | apply below_drew1 | refine below_set ?_ GE464.out | refine below_set ?_ GE465.out) | exact HB.out)) : p := h
theorem zs19_11 {p : Prop} (h : p := by repeat (first | (with_reducible first | exact HI0.out | apply IsS68.alloc | apply IsS68.drewN | apply IsS68.drew | apply IsS68.set_1 | apply IsS68.set_2) | exact HI0.out)) : p := h
theorem zs19_12 {p : Prop} (h : p := by repeat (first | (with_reducible first | exact HK.out | apply KeepBut.set_ | apply keep_drewN | apply keep_drew | apply keep_alloc) | exact HK.out)) : p := h
theorem zs19_13 {p : Prop} (h : p := by repeat (first | (with_reducible first | exact HB.out | apply below_alloc | apply pw_below_drewN | apply below_drew1 | refine below_set ?_ (IsS68.ge HI0.out)) | exact HB.out)) : p := h
theorem zs19_14 {p : Prop} (h : p := by have := HK1.out; first | omega | exact Nat.le_refl _) : p := h
theorem zs19_15 {p : Prop} (h : p := by have := HK1.out; have := HJ5.out; omega) : p := h
theorem zs19_16 {p : Prop} (h : p := by repeat (first | (with_reducible first | exact HB.out | apply below_alloc | apply pw_below_drewN | apply below_drew1 | refine below_set ?_ (IsS68.ge HI483.out)) | exact HB.out)) : p := h
theorem zs19_17 {p : Prop} (h : p := by first | omega | exact Nat.le_refl _) : p := h
theorem zs19_18 {p : Prop} (h : p := by repeat (first | (with_reducible first | exact HB.out | apply below_alloc | apply pw_below_drewN | apply below_drew1 | refine below_set ?_ GE503.out | refine below_set ?_ GE504.out) | exact HB.out)) : p := h
theorem zs19_19 {p : Prop} (h : p := by repeat (first | (with_reducible first | exact HB.out | apply below_alloc | apply pw_below_drewN | apply below_drew1 | refine below_set ?_ GE523.out | refine below_set ?_ GE528.out) | exact HB.out)) : p := h
theorem zq19_0_ {p : Prop} (h : p := by repeat (first | (with_reducible first | exact HI483.out | apply IsS68.alloc | apply IsS68.drewN | apply IsS68.drew | apply IsS68.set_1 | apply IsS68.set_2) | exact HI483.out)) : p := h
theorem zq19_1_ {p : Prop} (h : p := by exact rr_ HO526.out) : p := h
theorem zc19_0_ {p : Prop} (h : p := by repeat (first | exact (Kd.R_reads' HO_505000.out).2.2 | (with_reducible refine Kd.C_alloc ?_ _) | (with_reducible refine Kd.C_drewN ?_ _) | (with_reducible refine Kd.C_drew ?_))) : p := h
theorem zc19_1_ {p : Prop} (h : p := by repeat (first | exact (Kd.C_below HR0_0.out HB.out) | (with_reducible refine Kd.C_alloc ?_ _) | (with_reducible refine Kd.C_drewN ?_ _) | (with_reducible refine Kd.C_drew ?_))) : p := h
theorem zc19_2_ {p : Prop} (h : p := by repeat (first | (with_reducible first | exact HB.out | apply below_alloc | apply pw_below_drewN | apply below_drew1 | refine below_set ?_ (IsS68.ge HI483.out)) | exact HB.out)) : p := h
theorem zc19_3_ {p : Prop} (h : p := by repeat (first | (with_reducible first | exact HI483.out | apply IsS68.alloc | apply IsS68.drewN | apply IsS68.drew | apply IsS68.set_1 | apply IsS68.set_2) | exact HI483.out)) : p := h
theorem zc19_4_ {p : Prop} (h : p := by repeat (first | (with_reducible first | exact HB.out | apply below_alloc | apply pw_below_drewN | apply below_drew1 | refine below_set ?_ (IsS68.ge HI0.out)) | exact HB.out)) : p := h
theorem zc19_5_ {p : Prop} (h : p := by repeat (first | exact (Kd.R_reads' HO486.out).2.2 | (with_reducible refine Kd.C_alloc ?_ _) | (with_reducible refine Kd.C_drewN ?_ _) | (with_reducible refine Kd.C_drew ?_))) : p := h
theorem zc19_6_ {p : Prop} (h : p := by repeat (first | (with_reducible first | exact HI0.out | apply IsS68.alloc | apply IsS68.drewN | apply IsS68.drew | apply IsS68.set_1 | apply IsS68.set_2) | exact HI0.out)) : p := h
theorem zc19_7_ {p : Prop} (h : p := by exact (rr_ HO_5.out)) : p := h
theorem zc19_8_ {p : Prop} (h : p := by exact (Reps.one (show Kd.M (Kd.int .u8) _ _ _ (bt a2 t474) [.int .u8 (bt a2 t474)] from rfl) (Reps.none _ _))) : p := h
theorem zc19_9_ {p : Prop} (h : p := by first | (go_simp; done) | (go_simp; rfl)) : p := h
theorem z16_1_ {p : Prop} (h : p := by (try simp only [List.map_toArray, List.map_cons, List.map_nil]); first | done | rfl | (simp only [List.length_drop, List.length_take]; rfl)) : p := h
theorem z16_2_ {p : Prop} (h : p := by exact b_ BK456.out) : p := h
theorem z16_4_ {p : Prop} (h : p := by repeat (first | (with_reducible first | exact HB.out | apply below_alloc | apply pw_below_drewN | apply below_drew1 | refine below_set ?_ GE456.out) | exact HB.out)) : p := h
theorem z16_5_ {p : Prop} (h : p := by repeat (first | (with_reducible first | exact HB.out | apply below_alloc | apply pw_below_drewN | apply below_drew1 | refine below_set ?_ GE456.out | refine below_set ?_ GE457.out) | exact HB.out)) : p := h
theorem z16_6_ {p : Prop} (h : p := by repeat (first | (with_reducible first | exact HB.out | apply below_alloc | apply pw_below_drewN | apply below_drew1 | refine below_set ?_ GE452.out) | exact HB.out)) : p := h
theorem z16_7_ {p : Prop} (h : p := by refine b_ ?_; refine blk_put (cs := #[.slice none 0 0]) ?_ 0 _ rfl; exact b_ BK457.out) : p := h
theorem z16_8_ {p : Prop} (h : p := by exact b_ BK452.out) : p := h
theorem z16_9_ {p : Prop} (h : p := by exact b_ BK457.out) : p := h

/-! ### laws_iSame: function 25 -/
def laws_iSame.l0 : Nat → List Int → List Int → Int → Int → Option (Bool)
 | 0, _, _, _, _ => none
 | k + 1, x0, x1, x12, x13 => if x13 < x12 then (if 0 ≤ x13 then (if x13 < (x0.length : Int) then (if x13 < (x1.length : Int) then (if (rd x0 x13) = (rd x1 x13) then (laws_iSame.l0 k x0 x1 x12 (wrap64 (x13 + 1))) else (some false)) else (none)) else (none)) else (none)) else (some true)
def laws_iSame.f (k : Nat) (l0 : List Int) (l1 : List Int) : Option (Bool) := if (l0.length : Int) = (l1.length : Int) then (laws_iSame.l0 k l0 l1 (l0.length : Int) 0) else (some false)
theorem laws_iSame.mono_l : ∀ k, (∀ y0 y1 y2 y3, LeO (laws_iSame.l0 k y0 y1 y2 y3) (laws_iSame.l0 (k + 1) y0 y1 y2 y3))
 | 0 => fun _ _ _ _ r h => by simp [laws_iSame.l0] at h
 | k + 1 => by
  have ih0 := laws_iSame.mono_l k
  intro y0 y1 y2 y3
  unfold laws_iSame.l0
  have m1_ := @ih0
  exact zM_
theorem laws_iSame.mono : ∀ a0 a1 k, LeO (laws_iSame.f k a0 a1) (laws_iSame.f (k + 1) a0 a1) := by
 intro a0 a1 k
 have ih0 := laws_iSame.mono_l k
 unfold laws_iSame.f
 have m1_ := @ih0
 exact zM_
set_option maxHeartbeats 8000000 in
theorem laws_iSame.calls (k : Nat) (A0 : Option Addr) (c0 : Nat) (l0 : List Int) (A1 : Option Addr) (c1 : Nat) (l1 : List Int) (r : Bool) (w : World) (hr0 : Kd.C (Kd.int .i64) w A0 l0.length l0) (hc0 : l0.length ≤ c0) (hr1 : Kd.C (Kd.int .i64) w A1 l1.length l1) (hc1 : l1.length ≤ c1) (h : laws_iSame.f k l0 l1 = some r) :
 Calls Tryz.prog 25 #[.slice A0 l0.length c0, .slice A1 l1.length c1] w fun e w' => e = .returned (.bool r) ∧ Drawn0 w w' := by
 have HR0 := Aside0.mk hr0
 have HC0 := Aside0.mk hc0
 clear hr0 hc0
 have HR1 := Aside0.mk hr1
 have HC1 := Aside0.mk hc1
 clear hr1 hc1
 unfold laws_iSame.f at h
 have H := h
 clear h
 by_cases c3 : (l0.length : Int) = (l1.length : Int)
 rotate_left
 · obtain ⟨H, c3b0, c3b1⟩ := en_ c3 H
   have c3b2 : (l0.length == l1.length) = false := by first | simpa using c3 | (simp at c3 ⊢; omega)
   obtain rfl := Option.some.inj H
   go_enter Tryz.func25, Tryz.ntmps25
   go_wp2
   repeat (go_quiet (fail); try go_wp2)
   go_ret
   exact ⟨zs19_0, zs19_1⟩
 obtain ⟨H, c3b0, c3b1⟩ := ep_ c3 H
 have c3b2 : (l0.length == l1.length) = true := by first | simpa using c3 | (simp at c3 ⊢; omega)
 clear c3
 have H' := Aside0.mk H
 clear H
 go_enter Tryz.func25, Tryz.ntmps25
 go_wp2
 repeat (go_quiet (fail); try go_wp2)
 go_loopg [13] k (fun kq v13 w' => ∃ (x13_1 : Int), v13 = .int .i64 x13_1 ∧ Aside0 (laws_iSame.l0 kq l0 l1 (l0.length : Int) x13_1 = some r) ∧ Aside0 (kq ≤ k) ∧ Drawn0 w w')
 case atStart => exact ⟨(0), zV_, H', ⟨Nat.le_refl _⟩, zs19_1⟩
 case round =>
  clear H'
  obtain ⟨x13_1, rfl, HA, HK1, ⟨m1, rfl⟩⟩ := hrel
  cases gk with
  | zero => exact absurd HA.out (by simp [laws_iSame.l0])
  | succ k1 =>
   have H := HA.out
   clear HA
   simp only [laws_iSame.l0] at H
   by_cases c4 : x13_1 < (l0.length : Int)
   rotate_left
   · rw [if_neg c4] at H
     have c4b0 := decide_eq_false c4
     clear c4
     obtain rfl := Option.some.inj H
     go_wp2
     repeat (go_quiet (fail); try go_wp2)
     go_ret
     exact ⟨zs19_0, zs19_1⟩
   rw [if_pos c4] at H
   have c4b0 := decide_eq_true c4
   clear c4
   replace H := gd_ H; obtain ⟨c5, H⟩ := H
   have c5b0 : decide (0 ≤ x13_1) = true := decide_eq_true c5
   clear c5
   replace H := gd_ H; obtain ⟨c6, H⟩ := H
   have c6b0 : decide (x13_1 < (l0.length : Int)) = true := decide_eq_true c6
   clear c6
   replace H := gd_ H; obtain ⟨c7, H⟩ := H
   have c7b0 : decide (x13_1 < (l1.length : Int)) = true := decide_eq_true c7
   clear c7
   by_cases c8 : (rd l0 x13_1) = (rd l1 x13_1)
   · obtain ⟨H, c8b0, c8b1⟩ := ep_ c8 H
     clear c8
     have H' := Aside0.mk H
     clear H
     have p442 : 0 ≤ (x13_1 : Int) := of_decide_eq_true zS_
     have q442 : x13_1 < (l0.length : Int) := of_decide_eq_true zS_
     obtain ⟨ad442, e442, hx442_0⟩ := Kd.at_int HR0.out x13_1 p442 q442
     cases e442
     replace p442 := eq_true p442
     replace q442 := eq_true q442
     have p443 : 0 ≤ (x13_1 : Int) := of_decide_eq_true zS_
     have q443 : x13_1 < (l1.length : Int) := of_decide_eq_true zS_
     obtain ⟨ad443, e443, hx443_0⟩ := Kd.at_int HR1.out x13_1 p443 q443
     cases e443
     replace p443 := eq_true p443
     replace q443 := eq_true q443
     go_wp2
     repeat (go_quiet (fail); try go_wp2)
     go_roundg k1
     case measure => have := HK1.out; omega
     case rel => exact ⟨(wrap64 (x13_1 + 1)), zV_, H', ⟨zs19_2⟩, zs19_1⟩
   obtain ⟨H, c8b0, c8b1⟩ := en_ c8 H
   obtain rfl := Option.some.inj H
   have p442 : 0 ≤ (x13_1 : Int) := of_decide_eq_true zS_
   have q442 : x13_1 < (l0.length : Int) := of_decide_eq_true zS_
   obtain ⟨ad442, e442, hx442_0⟩ := Kd.at_int HR0.out x13_1 p442 q442
   cases e442
   replace p442 := eq_true p442
   replace q442 := eq_true q442
   have p443 : 0 ≤ (x13_1 : Int) := of_decide_eq_true zS_
   have q443 : x13_1 < (l1.length : Int) := of_decide_eq_true zS_
   obtain ⟨ad443, e443, hx443_0⟩ := Kd.at_int HR1.out x13_1 p443 q443
   cases e443
   replace p443 := eq_true p443
   replace q443 := eq_true q443
   go_wp2
   repeat (go_quiet (fail); try go_wp2)
   go_ret
   exact ⟨zs19_0, zs19_1⟩

/-! ### spec_IsPuzzle: function 27 -/
def spec_IsPuzzle.f (k : Nat) (l0_0 : List (S46)) : Option (Bool) := (spec_pzGood.f k l0_0).bind fun t445 => (some t445)
theorem spec_IsPuzzle.mono : ∀ a0 k, LeO (spec_IsPuzzle.f k a0) (spec_IsPuzzle.f (k + 1) a0) := by
 intro a0 k
 unfold spec_IsPuzzle.f
 have m1_ := @spec_pzGood.mono
 exact zM_
set_option maxHeartbeats 8000000 in
theorem spec_IsPuzzle.calls (k : Nat) (A0_0 : Option Addr) (c0_0 : Nat) (l0_0 : List (S46)) (r : Bool) (w : World) (hr0_0 : Kd.C k46 w A0_0 l0_0.length l0_0) (hc0_0 : l0_0.length ≤ c0_0) (h : spec_IsPuzzle.f k l0_0 = some r) :
 Calls Tryz.prog 27 #[.agg #[.slice A0_0 l0_0.length c0_0]] w fun e w' => e = .returned (.bool r) ∧ Below w.heap.size w w' := by
 have hu26 := Tryz.underlying26
 have HR0_0 := Aside0.mk hr0_0
 have HC0_0 := Aside0.mk hc0_0
 clear hr0_0 hc0_0
 have HB := Aside0.mk (Below.refl w.heap.size w)
 unfold spec_IsPuzzle.f at h
 have H := h
 clear h
 replace H := bd_ H; obtain ⟨t445, A2, H⟩ := H
 obtain rfl := Option.some.inj H
 go_enter Tryz.func27, Tryz.ntmps27
 go_wp2_with (first | (refine bx_ 1 #[.slice A0_0 l0_0.length c0_0] 26 ?_; intro gb444 hg w3 hbox hb; have BK444 := Aside0.mk (hbox); have GW444 : Aside0 (w.heap.size ≤ gb444) := bs_ hg zB_; have GE444 := GW444; replace HB := Aside0.mk (below_step zB_ hb); clear hb hbox hg; have hcz4_0 : w3.cell? ⟨gb444, 0, none⟩ = some (.slice A0_0 l0_0.length c0_0) := (blk_cell BK444.out 0).trans rfl; have hfz4_0 := blk_frozen BK444.out 0) | ((with_reducible refine gc_ 39 rfl ?_); refine gL_ 4 Tryz.func39 #[.agg #[.slice A0_0 l0_0.length c0_0]] ?_; (with_reducible refine (spec_pzGood.calls k _ _ l0_0 t445 _ ?side1 ?side2 A2.out).mono ?_); (case side1 => exact zc19_1_); (case side2 => exact HC0_0.out); rintro e w5 ⟨rfl, hb⟩; refine ⟨_, rfl, ?_⟩; replace BK444 := bb_ BK444 (b_ BK444.out) hb; replace HB := Aside0.mk (below_step (by repeat (first | (with_reducible first | exact HB.out | apply below_alloc | apply pw_below_drewN | apply below_drew1 | refine below_set ?_ GE444.out) | exact HB.out)) hb)))
 go_ret
 exact ⟨zR_, by repeat (first | (with_reducible first | exact HB.out | apply below_alloc | apply pw_below_drewN | apply below_drew1 | refine below_set ?_ GE444.out) | exact HB.out)⟩

/-! ### laws_iRisen: function 28 -/
def laws_iRisen.l0 : Nat → List ByteArray → Int → Option (Bool)
 | 0, _, _ => none
 | k + 1, x0, x3 => if x3 < (x0.length : Int) then (if 0 ≤ (wrap64 (x3 - 1)) then (if (wrap64 (x3 - 1)) < (x0.length : Int) then (if 0 ≤ x3 then (if ((Op.bytesLess ((rdOf ByteArray.empty x0 (wrap64 (x3 - 1))).toList) ((rdOf ByteArray.empty x0 x3).toList)) = true) then (laws_iRisen.l0 k x0 (wrap64 (x3 + 1))) else (some false)) else (none)) else (none)) else (none)) else (some true)
def laws_iRisen.f (k : Nat) (l0 : List ByteArray) : Option (Bool) := laws_iRisen.l0 k l0 1
theorem laws_iRisen.mono_l : ∀ k, (∀ y0 y1, LeO (laws_iRisen.l0 k y0 y1) (laws_iRisen.l0 (k + 1) y0 y1))
 | 0 => fun _ _ r h => by simp [laws_iRisen.l0] at h
 | k + 1 => by
  have ih0 := laws_iRisen.mono_l k
  intro y0 y1
  unfold laws_iRisen.l0
  have m1_ := @ih0
  exact zM_
theorem laws_iRisen.mono : ∀ a0 k, LeO (laws_iRisen.f k a0) (laws_iRisen.f (k + 1) a0) := by
 intro a0 k
 have ih0 := laws_iRisen.mono_l k
 unfold laws_iRisen.f
 have m1_ := @ih0
 exact zM_
set_option maxHeartbeats 8000000 in
theorem laws_iRisen.calls (k : Nat) (A0 : Option Addr) (c0 : Nat) (l0 : List ByteArray) (r : Bool) (w : World) (hr0 : Kd.C Kd.string w A0 l0.length l0) (hc0 : l0.length ≤ c0) (h : laws_iRisen.f k l0 = some r) :
 Calls Tryz.prog 28 #[.slice A0 l0.length c0] w fun e w' => e = .returned (.bool r) ∧ Drawn0 w w' := by
 have HR0 := Aside0.mk hr0
 have HC0 := Aside0.mk hc0
 clear hr0 hc0
 unfold laws_iRisen.f at h
 have H := h
 clear h
 have H' := Aside0.mk H
 clear H
 go_enter Tryz.func28, Tryz.ntmps28
 go_wp2
 repeat (go_quiet (fail); try go_wp2)
 go_loopg [3] k (fun kq v3 w' => ∃ (x3_1 : Int), v3 = .int .i64 x3_1 ∧ Aside0 (laws_iRisen.l0 kq l0 x3_1 = some r) ∧ Aside0 (kq ≤ k) ∧ Drawn0 w w')
 case atStart => exact ⟨(1), zV_, H', ⟨Nat.le_refl _⟩, zs19_1⟩
 case round =>
  clear H'
  obtain ⟨x3_1, rfl, HA, HK1, ⟨m1, rfl⟩⟩ := hrel
  cases gk with
  | zero => exact absurd HA.out (by simp [laws_iRisen.l0])
  | succ k1 =>
   have H := HA.out
   clear HA
   simp only [laws_iRisen.l0] at H
   by_cases c2 : x3_1 < (l0.length : Int)
   rotate_left
   · rw [if_neg c2] at H
     have c2b0 := decide_eq_false c2
     clear c2
     obtain rfl := Option.some.inj H
     go_wp2
     repeat (go_quiet (fail); try go_wp2)
     go_ret
     exact ⟨zs19_0, zs19_1⟩
   rw [if_pos c2] at H
   have c2b0 := decide_eq_true c2
   clear c2
   obtain ⟨ji3, hji3⟩ : ∃ j_ : Int, (wrap64 (x3_1 - 1)) = j_ := ⟨_, rfl⟩
   replace H : (if 0 ≤ (ji3) then (if (ji3) < (l0.length : Int) then (if 0 ≤ x3_1 then (if ((Op.bytesLess ((rdOf ByteArray.empty l0 (ji3)).toList) ((rdOf ByteArray.empty l0 x3_1).toList)) = true) then (laws_iRisen.l0 k1 l0 (wrap64 (x3_1 + 1))) else (some false)) else (none)) else (none)) else (none)) = some r := by first | (rw [hji3] at H; exact H) | (simp only [hji3] at H ⊢; exact H)
   have hji3w : (IntKind.i64.wrap (x3_1 - 1)) = ji3 := (i64_w _).trans hji3
   replace H := gd_ H; obtain ⟨c4, H⟩ := H
   have c4b0 : decide (0 ≤ (ji3)) = true := decide_eq_true c4
   clear c4
   replace H := gd_ H; obtain ⟨c5, H⟩ := H
   have c5b0 : decide ((ji3) < (l0.length : Int)) = true := decide_eq_true c5
   clear c5
   replace H := gd_ H; obtain ⟨c6, H⟩ := H
   have c6b0 : decide (0 ≤ x3_1) = true := decide_eq_true c6
   clear c6
   by_cases c7 : ((Op.bytesLess ((rdOf ByteArray.empty l0 (ji3)).toList) ((rdOf ByteArray.empty l0 x3_1).toList)) = true)
   · rw [if_pos c7] at H
     have c7b0 : (Op.bytesLess ((rdOf ByteArray.empty l0 (ji3)).toList) ((rdOf ByteArray.empty l0 x3_1).toList)) = true := c7
     clear c7
     have H' := Aside0.mk H
     clear H
     have p446 : 0 ≤ ((ji3) : Int) := of_decide_eq_true zS_
     have q446 : (ji3) < (l0.length : Int) := of_decide_eq_true zS_
     obtain ⟨ad446, e446, hx446_0⟩ := Kd.at_string HR0.out (ji3) p446 q446
     cases e446
     replace p446 := eq_true p446
     replace q446 := eq_true q446
     have p447 : 0 ≤ (x3_1 : Int) := of_decide_eq_true zS_
     have q447 : x3_1 < (l0.length : Int) := of_decide_eq_true zS_
     obtain ⟨ad447, e447, hx447_0⟩ := Kd.at_string HR0.out x3_1 p447 q447
     obtain rfl : ad446 = ad447 := (by injection e447)
     replace p447 := eq_true p447
     replace q447 := eq_true q447
     go_wp2
     repeat (go_quiet (fail); try go_wp2)
     go_roundg k1
     case measure => have := HK1.out; omega
     case rel => exact ⟨(wrap64 (x3_1 + 1)), zV_, H', ⟨zs19_2⟩, zs19_1⟩
   rw [if_neg c7] at H
   have c7b0 : (Op.bytesLess ((rdOf ByteArray.empty l0 (ji3)).toList) ((rdOf ByteArray.empty l0 x3_1).toList)) = false := by simpa using c7
   clear c7
   obtain rfl := Option.some.inj H
   have p446 : 0 ≤ ((ji3) : Int) := of_decide_eq_true zS_
   have q446 : (ji3) < (l0.length : Int) := of_decide_eq_true zS_
   obtain ⟨ad446, e446, hx446_0⟩ := Kd.at_string HR0.out (ji3) p446 q446
   cases e446
   replace p446 := eq_true p446
   replace q446 := eq_true q446
   have p447 : 0 ≤ (x3_1 : Int) := of_decide_eq_true zS_
   have q447 : x3_1 < (l0.length : Int) := of_decide_eq_true zS_
   obtain ⟨ad447, e447, hx447_0⟩ := Kd.at_string HR0.out x3_1 p447 q447
   obtain rfl : ad446 = ad447 := (by injection e447)
   replace p447 := eq_true p447
   replace q447 := eq_true q447
   go_wp2
   repeat (go_quiet (fail); try go_wp2)
   go_ret
   exact ⟨by first | rfl | (simp; done) | (simp only [← hji3] <;> (first | rfl | simp)) | (simp [*]; done), zs19_1⟩

/-! ### impl_areDigits: function 49 -/
def impl_areDigits.l0 : Nat → ByteArray → Int → Int → Int → Int → Option (Bool)
 | 0, _, _, _, _, _ => none
 | k + 1, x0, x1, x2, x9, x10 => if x10 < x9 then (if 0 ≤ x10 then (if x10 < (x0.size : Int) then (if (bt x0 x10) < 48 then (some false) else (if (bt x0 x10) > 57 then (some false) else (impl_areDigits.l0 k x0 x1 x2 x9 (wrap64 (x10 + 1))))) else (none)) else (none)) else ((impl_within.f (x0.size : Int) x1 x2).bind fun t448 => (some t448))
def impl_areDigits.f (k : Nat) (a0 : ByteArray) (a1 : Int) (a2 : Int) : Option (Bool) := impl_areDigits.l0 k a0 a1 a2 (a0.size : Int) 0
theorem impl_areDigits.mono_l : ∀ k, (∀ y0 y1 y2 y3 y4, LeO (impl_areDigits.l0 k y0 y1 y2 y3 y4) (impl_areDigits.l0 (k + 1) y0 y1 y2 y3 y4))
 | 0 => fun _ _ _ _ _ r h => by simp [impl_areDigits.l0] at h
 | k + 1 => by
  have ih0 := impl_areDigits.mono_l k
  intro y0 y1 y2 y3 y4
  unfold impl_areDigits.l0
  have m1_ := @ih0
  exact zM_
theorem impl_areDigits.mono : ∀ a0 a1 a2 k, LeO (impl_areDigits.f k a0 a1 a2) (impl_areDigits.f (k + 1) a0 a1 a2) := by
 intro a0 a1 a2 k
 have ih0 := impl_areDigits.mono_l k
 unfold impl_areDigits.f
 have m1_ := @ih0
 exact zM_
set_option maxHeartbeats 8000000 in
theorem impl_areDigits.calls (k : Nat) (a0 : ByteArray) (a1 : Int) (a2 : Int) (r : Bool) (w : World) (h : impl_areDigits.f k a0 a1 a2 = some r) :
 Calls Tryz.prog 49 #[.string a0, .int .i64 a1, .int .i64 a2] w fun e w' => e = .returned (.bool r) ∧ Drawn0 w w' := by
 unfold impl_areDigits.f at h
 have H := h
 clear h
 have H' := Aside0.mk H
 clear H
 go_enter Tryz.func49, Tryz.ntmps49
 go_wp2
 go_loopg [10] k (fun kq v10 w' => ∃ (x10_1 : Int), v10 = .int .i64 x10_1 ∧ Aside0 (impl_areDigits.l0 kq a0 a1 a2 (a0.size : Int) x10_1 = some r) ∧ Aside0 (kq ≤ k) ∧ Drawn0 w w')
 case atStart => exact ⟨(0), zV_, H', ⟨Nat.le_refl _⟩, zs19_1⟩
 case round =>
  clear H'
  try clear p2
  obtain ⟨x10_1, rfl, HA, HK1, ⟨m1, rfl⟩⟩ := hrel
  cases gk with
  | zero => exact absurd HA.out (by simp [impl_areDigits.l0])
  | succ k1 =>
   have H := HA.out
   clear HA
   simp only [impl_areDigits.l0] at H
   by_cases c4 : x10_1 < (a0.size : Int)
   rotate_left
   · rw [if_neg c4] at H
     have c4b0 := decide_eq_false c4
     clear c4
     replace H := bd_ H; obtain ⟨t448, A11, H⟩ := H
     obtain rfl := Option.some.inj H
     go_wp2_with (first | ((with_reducible refine gc_ 52 rfl ?_); refine gL_ 28 Tryz.func52 #[.int .i64 (a0.size : Int), .int .i64 a1, .int .i64 a2] ?_; (with_reducible refine (impl_within.calls (a0.size : Int) a1 a2 t448 _ A11.out).mono ?_); rintro e w' ⟨rfl, ⟨nd, rfl⟩⟩; refine ⟨_, rfl, ?_⟩))
     go_ret
     exact ⟨zs19_0, zs19_1⟩
   rw [if_pos c4] at H
   have c4b0 := decide_eq_true c4
   clear c4
   replace H := gd_ H; obtain ⟨c5, H⟩ := H
   have c5b0 : decide (0 ≤ x10_1) = true := decide_eq_true c5
   clear c5
   replace H := gd_ H; obtain ⟨c6, H⟩ := H
   have c6b0 : decide (x10_1 < (a0.size : Int)) = true := decide_eq_true c6
   clear c6
   by_cases c8 : (bt a0 x10_1) < 48
   · rw [if_pos c8] at H
     have c8b0 := decide_eq_true c8
     clear c8
     obtain rfl := Option.some.inj H
     have p7 : 0 ≤ (x10_1 : Int) := of_decide_eq_true zS_
     have q7 : x10_1 < (a0.size : Int) := of_decide_eq_true zS_
     have hx7 := bt_at a0 x10_1
     replace p7 := eq_true p7
     replace q7 := eq_true q7
     go_wp2
     go_ret
     exact ⟨zs19_0, zs19_1⟩
   rw [if_neg c8] at H
   have c8b0 := decide_eq_false c8
   clear c8
   by_cases c10 : (bt a0 x10_1) > 57
   · rw [if_pos c10] at H
     have c10b0 : decide (57 < (bt a0 x10_1)) = true := decide_eq_true c10
     clear c10
     obtain rfl := Option.some.inj H
     have p7 : 0 ≤ (x10_1 : Int) := of_decide_eq_true zS_
     have q7 : x10_1 < (a0.size : Int) := of_decide_eq_true zS_
     have hx7 := bt_at a0 x10_1
     replace p7 := eq_true p7
     replace q7 := eq_true q7
     have p9 : 0 ≤ (x10_1 : Int) := of_decide_eq_true zS_
     have q9 : x10_1 < (a0.size : Int) := of_decide_eq_true zS_
     have hx9 := bt_at a0 x10_1
     replace p9 := eq_true p9
     replace q9 := eq_true q9
     go_wp2
     go_ret
     exact ⟨zs19_0, zs19_1⟩
   rw [if_neg c10] at H
   have c10b0 : decide (57 < (bt a0 x10_1)) = false := decide_eq_false c10
   clear c10
   have H' := Aside0.mk H
   clear H
   have p7 : 0 ≤ (x10_1 : Int) := of_decide_eq_true zS_
   have q7 : x10_1 < (a0.size : Int) := of_decide_eq_true zS_
   have hx7 := bt_at a0 x10_1
   replace p7 := eq_true p7
   replace q7 := eq_true q7
   have p9 : 0 ≤ (x10_1 : Int) := of_decide_eq_true zS_
   have q9 : x10_1 < (a0.size : Int) := of_decide_eq_true zS_
   have hx9 := bt_at a0 x10_1
   replace p9 := eq_true p9
   replace q9 := eq_true q9
   go_wp2
   go_roundg k1
   case measure => have := HK1.out; omega
   case rel => exact ⟨(wrap64 (x10_1 + 1)), zV_, H', ⟨zs19_2⟩, zs19_1⟩

/-! ### impl_IsTicket: function 29 -/
def impl_IsTicket.f (k : Nat) (a0 : ByteArray) : Option (Bool) := (impl_areDigits.f k a0 2 12).bind fun t449 => (if t449 = true then (some (((a0.size : Int) % 2) == 0)) else (some false))
theorem impl_IsTicket.mono : ∀ a0 k, LeO (impl_IsTicket.f k a0) (impl_IsTicket.f (k + 1) a0) := by
 intro a0 k
 unfold impl_IsTicket.f
 have m1_ := @impl_areDigits.mono
 exact zM_
set_option maxHeartbeats 8000000 in
theorem impl_IsTicket.calls (k : Nat) (a0 : ByteArray) (r : Bool) (w : World) (h : impl_IsTicket.f k a0 = some r) :
 Calls Tryz.prog 29 #[.string a0] w fun e w' => e = .returned (.bool r) ∧ Drawn0 w w' := by
 unfold impl_IsTicket.f at h
 have H := h
 clear h
 replace H := bd_ H; obtain ⟨t449, A2, H⟩ := H
 by_cases c3 : t449 = true
 · subst c3
   rw [if_pos rfl] at H
   obtain rfl := Option.some.inj H
   go_enter Tryz.func29, Tryz.ntmps29
   go_wp2_with (first | ((with_reducible refine gc_ 49 rfl ?_); refine gL_ 4 Tryz.func49 #[.string a0, .int .i64 2, .int .i64 12] ?_; (with_reducible refine (impl_areDigits.calls k a0 2 12 true _ A2.out).mono ?_); rintro e w' ⟨rfl, ⟨nd, rfl⟩⟩; refine ⟨_, rfl, ?_⟩))
   go_ret
   exact ⟨zs19_0, zs19_1⟩
 replace H := bf_ c3 H; obtain ⟨rfl, H⟩ := H
 obtain rfl := Option.some.inj H
 go_enter Tryz.func29, Tryz.ntmps29
 go_wp2_with (first | ((with_reducible refine gc_ 49 rfl ?_); refine gL_ 4 Tryz.func49 #[.string a0, .int .i64 2, .int .i64 12] ?_; (with_reducible refine (impl_areDigits.calls k a0 2 12 false _ A2.out).mono ?_); rintro e w' ⟨rfl, ⟨nd, rfl⟩⟩; refine ⟨_, rfl, ?_⟩))
 go_ret
 exact ⟨zs19_0, zs19_1⟩

/-! ### strings_Trim: function 69 -/
def strings_Trim.f (a0 : ByteArray) (a1 : ByteArray) : Option ByteArray := if a0.size ≤ 9223372036854775807 then (if a1.size < 4294967281 then (if a1.data.toList.all (fun b => decide (b.toNat < 128)) = true then some ⟨(Lib.trimS a0.data.toList a1.data.toList).toArray⟩ else none) else none) else none
theorem strings_Trim.calls (a0 : ByteArray) (a1 : ByteArray) (r : ByteArray) (w : World) (h : strings_Trim.f a0 a1 = some r) :
 Calls Tryz.prog 69 #[.string a0, .string a1] w fun e w' => e = .returned (.string r) ∧ Below w.heap.size w w' := by
 unfold strings_Trim.f at h
 by_cases h0 : a0.size ≤ 9223372036854775807
 rotate_left
 · exact none_ (if_neg h0) h
 rw [if_pos h0] at h
 by_cases h1 : a1.size < 4294967281
 rotate_left
 · exact none_ (if_neg h1) h
 rw [if_pos h1] at h
 by_cases h2 : a1.data.toList.all (fun b => decide (b.toNat < 128)) = true
 rotate_left
 · exact none_ (if_neg h2) h
 rw [if_pos h2] at h
 obtain rfl := Option.some.inj h
 exact Shelf.Trim a0 a1 w h0 h1 h2

/-! ### impl_isHidden: function 50 -/
def impl_isHidden.f (k : Nat) (a0 : ByteArray) : Option (Bool) := (impl_areDigits.f k a0 4 4).bind fun t450 => (if t450 = true then ((strings_Trim.f a0 (⟨#[48, 49, 50, 51, 52, 53]⟩ : ByteArray)).bind fun t451 => (some (t451.toList == ([] : List UInt8)))) else (some false))
theorem impl_isHidden.mono : ∀ a0 k, LeO (impl_isHidden.f k a0) (impl_isHidden.f (k + 1) a0) := by
 intro a0 k
 unfold impl_isHidden.f
 have m1_ := @impl_areDigits.mono
 exact zM_
set_option maxHeartbeats 8000000 in
theorem impl_isHidden.calls (k : Nat) (a0 : ByteArray) (r : Bool) (w : World) (h : impl_isHidden.f k a0 = some r) :
 Calls Tryz.prog 50 #[.string a0] w fun e w' => e = .returned (.bool r) ∧ Below w.heap.size w w' := by
 have HB := Aside0.mk (Below.refl w.heap.size w)
 unfold impl_isHidden.f at h
 have H := h
 clear h
 replace H := bd_ H; obtain ⟨t450, A2, H⟩ := H
 by_cases c3 : t450 = true
 · subst c3
   rw [if_pos rfl] at H
   replace H := bd_ H; obtain ⟨t451, A4, H⟩ := H
   obtain rfl := Option.some.inj H
   go_enter Tryz.func50, Tryz.ntmps50
   go_wp2_with (first | ((with_reducible refine gc_ 49 rfl ?_); refine gL_ 4 Tryz.func49 #[.string a0, .int .i64 4, .int .i64 4] ?_; (with_reducible refine (impl_areDigits.calls k a0 4 4 true _ A2.out).mono ?_); rintro e w' ⟨rfl, ⟨nd, rfl⟩⟩; refine ⟨_, rfl, ?_⟩) | (go_at_call 69; (with_reducible refine (strings_Trim.calls a0 (⟨#[48, 49, 50, 51, 52, 53]⟩ : ByteArray) t451 _ A4.out).mono ?_); rintro e w5 ⟨rfl, hb⟩; replace HB := Aside0.mk (below_step zB_ hb)))
   go_ret
   exact ⟨zR_, zB_⟩
 replace H := bf_ c3 H; obtain ⟨rfl, H⟩ := H
 obtain rfl := Option.some.inj H
 go_enter Tryz.func50, Tryz.ntmps50
 go_wp2_with (first | ((with_reducible refine gc_ 49 rfl ?_); refine gL_ 4 Tryz.func49 #[.string a0, .int .i64 4, .int .i64 4] ?_; (with_reducible refine (impl_areDigits.calls k a0 4 4 false _ A2.out).mono ?_); rintro e w' ⟨rfl, ⟨nd, rfl⟩⟩; refine ⟨_, rfl, ?_⟩))
 go_ret
 exact ⟨zR_, zB_⟩

/-! ### impl_DoesFit: function 30 -/
def impl_DoesFit.f (k : Nat) (a0_0 : Int) (a0_1 : Int) (a0_2 : Int) (a1 : ByteArray) : Option (Bool × Bool) := (impl_IsClue.f k a0_0 a0_1 a0_2).bind fun t453 => (if t453 = true then ((impl_isHidden.f k a1).bind fun t454 => (if t454 = true then ((impl_Clue_fits.f k a0_0 a0_1 a0_2 a1).bind fun t455 => (some (t455, true))) else (some (false, false)))) else (some (false, false)))
theorem impl_DoesFit.mono : ∀ a0 a1 a2 a3 k, LeO (impl_DoesFit.f k a0 a1 a2 a3) (impl_DoesFit.f (k + 1) a0 a1 a2 a3) := by
 intro a0 a1 a2 a3 k
 unfold impl_DoesFit.f
 have m1_ := @impl_Clue_fits.mono
 have m2_ := @impl_IsClue.mono
 have m3_ := @impl_isHidden.mono
 exact zM_
set_option maxHeartbeats 8000000 in
theorem impl_DoesFit.calls (k : Nat) (a0_0 : Int) (a0_1 : Int) (a0_2 : Int) (a1 : ByteArray) (r1 : Bool) (r2 : Bool) (w : World) (h : impl_DoesFit.f k a0_0 a0_1 a0_2 a1 = some (r1, r2)) :
 Calls Tryz.prog 30 #[.agg #[.int .i64 a0_0, .int .i64 a0_1, .int .i64 a0_2], .string a1] w fun e w' => e = .returned (.tuple #[.bool r1, .bool r2]) ∧ Below w.heap.size w w' := by
 have hu46 := Tryz.underlying46
 have HB := Aside0.mk (Below.refl w.heap.size w)
 unfold impl_DoesFit.f at h
 have H := h
 clear h
 replace H := bd_ H; obtain ⟨t453, A3, H⟩ := H
 by_cases c4 : t453 = true
 rotate_left
 · replace H := bf_ c4 H; obtain ⟨rfl, H⟩ := H
   simp only [Option.some.injEq, Prod.mk.injEq] at H
   obtain ⟨rfl, rfl⟩ := H
   go_enter Tryz.func30, Tryz.ntmps30
   go_wp2_with (first | (refine bx_ 2 #[.int .i64 a0_0, .int .i64 a0_1, .int .i64 a0_2] 46 ?_; intro gb452 hg w18 hbox hb; have BK452 := Aside0.mk (hbox); have GW452 : Aside0 (w.heap.size ≤ gb452) := bs_ hg zB_; have GE452 := GW452; replace HB := Aside0.mk (below_step zB_ hb); clear hb hbox hg; have hcz19_0 : w18.cell? ⟨gb452, 0, none⟩ = some (.int .i64 a0_0) := (blk_cell BK452.out 0).trans rfl; have hcz19_1 : w18.cell? ⟨gb452, 1, none⟩ = some (.int .i64 a0_1) := (blk_cell BK452.out 1).trans rfl; have hcz19_2 : w18.cell? ⟨gb452, 2, none⟩ = some (.int .i64 a0_2) := (blk_cell BK452.out 2).trans rfl; have hfz19_0 := blk_frozen BK452.out 0; have hfz19_1 := blk_frozen BK452.out 1; have hfz19_2 := blk_frozen BK452.out 2) | ((with_reducible refine gc_ 48 rfl ?_); refine gL_ 7 Tryz.func48 #[.agg #[.int .i64 a0_0, .int .i64 a0_1, .int .i64 a0_2]] ?_; (with_reducible refine (impl_IsClue.calls k a0_0 a0_1 a0_2 false _ A3.out).mono ?_); rintro e w20 ⟨rfl, hb⟩; refine ⟨_, rfl, ?_⟩; replace BK452 := bb_ BK452 z16_8_ hb; replace HB := Aside0.mk (below_step z16_6_ hb)))
   go_ret2
   exact ⟨zR_, zs19_3⟩
 subst c4
 rw [if_pos rfl] at H
 replace H := bd_ H; obtain ⟨t454, A5, H⟩ := H
 by_cases c6 : t454 = true
 · subst c6
   rw [if_pos rfl] at H
   replace H := bd_ H; obtain ⟨t455, A7, H⟩ := H
   simp only [Option.some.injEq, Prod.mk.injEq] at H
   obtain ⟨rfl, rfl⟩ := H
   go_enter Tryz.func30, Tryz.ntmps30
   go_wp2_with (first | (refine bx_ 2 #[.int .i64 a0_0, .int .i64 a0_1, .int .i64 a0_2] 46 ?_; intro gb452 hg w8 hbox hb; have BK452 := Aside0.mk (hbox); have GW452 : Aside0 (w.heap.size ≤ gb452) := bs_ hg zB_; have GE452 := GW452; replace HB := Aside0.mk (below_step zB_ hb); clear hb hbox hg; have hcz9_0 : w8.cell? ⟨gb452, 0, none⟩ = some (.int .i64 a0_0) := (blk_cell BK452.out 0).trans rfl; have hcz9_1 : w8.cell? ⟨gb452, 1, none⟩ = some (.int .i64 a0_1) := (blk_cell BK452.out 1).trans rfl; have hcz9_2 : w8.cell? ⟨gb452, 2, none⟩ = some (.int .i64 a0_2) := (blk_cell BK452.out 2).trans rfl; have hfz9_0 := blk_frozen BK452.out 0; have hfz9_1 := blk_frozen BK452.out 1; have hfz9_2 := blk_frozen BK452.out 2) | ((with_reducible refine gc_ 48 rfl ?_); refine gL_ 7 Tryz.func48 #[.agg #[.int .i64 a0_0, .int .i64 a0_1, .int .i64 a0_2]] ?_; (with_reducible refine (impl_IsClue.calls k a0_0 a0_1 a0_2 true _ A3.out).mono ?_); rintro e w10 ⟨rfl, hb⟩; refine ⟨_, rfl, ?_⟩; replace BK452 := bb_ BK452 z16_8_ hb; replace HB := Aside0.mk (below_step z16_6_ hb)) | (go_at_call 50; (with_reducible refine (impl_isHidden.calls k a1 true _ A5.out).mono ?_); rintro e w11 ⟨rfl, hb⟩; replace BK452 := bb_ BK452 z16_8_ hb; replace HB := Aside0.mk (below_step z16_6_ hb); have hcz12_0 : w11.cell? ⟨gb452, 0, none⟩ = some (.int .i64 a0_0) := (blk_cell BK452.out 0).trans rfl; have hcz12_1 : w11.cell? ⟨gb452, 1, none⟩ = some (.int .i64 a0_1) := (blk_cell BK452.out 1).trans rfl; have hcz12_2 : w11.cell? ⟨gb452, 2, none⟩ = some (.int .i64 a0_2) := (blk_cell BK452.out 2).trans rfl; have hfz12_0 := blk_frozen BK452.out 0; have hfz12_1 := blk_frozen BK452.out 1; have hfz12_2 := blk_frozen BK452.out 2) | ((with_reducible refine gc_ 51 rfl ?_); refine gL_ 16 Tryz.func51 #[.agg #[.int .i64 a0_0, .int .i64 a0_1, .int .i64 a0_2], .string a1] ?_; (with_reducible refine (impl_Clue_fits.calls k a0_0 a0_1 a0_2 a1 t455 _ A7.out).mono ?_); rintro e w13 ⟨rfl, hb⟩; refine ⟨_, rfl, ?_⟩; replace BK452 := bb_ BK452 z16_8_ hb; replace HB := Aside0.mk (below_step z16_6_ hb)))
   go_ret2
   exact ⟨zR_, zs19_3⟩
 replace H := bf_ c6 H; obtain ⟨rfl, H⟩ := H
 simp only [Option.some.injEq, Prod.mk.injEq] at H
 obtain ⟨rfl, rfl⟩ := H
 go_enter Tryz.func30, Tryz.ntmps30
 go_wp2_with (first | (refine bx_ 2 #[.int .i64 a0_0, .int .i64 a0_1, .int .i64 a0_2] 46 ?_; intro gb452 hg w14 hbox hb; have BK452 := Aside0.mk (hbox); have GW452 : Aside0 (w.heap.size ≤ gb452) := bs_ hg zB_; have GE452 := GW452; replace HB := Aside0.mk (below_step zB_ hb); clear hb hbox hg; have hcz15_0 : w14.cell? ⟨gb452, 0, none⟩ = some (.int .i64 a0_0) := (blk_cell BK452.out 0).trans rfl; have hcz15_1 : w14.cell? ⟨gb452, 1, none⟩ = some (.int .i64 a0_1) := (blk_cell BK452.out 1).trans rfl; have hcz15_2 : w14.cell? ⟨gb452, 2, none⟩ = some (.int .i64 a0_2) := (blk_cell BK452.out 2).trans rfl; have hfz15_0 := blk_frozen BK452.out 0; have hfz15_1 := blk_frozen BK452.out 1; have hfz15_2 := blk_frozen BK452.out 2) | ((with_reducible refine gc_ 48 rfl ?_); refine gL_ 7 Tryz.func48 #[.agg #[.int .i64 a0_0, .int .i64 a0_1, .int .i64 a0_2]] ?_; (with_reducible refine (impl_IsClue.calls k a0_0 a0_1 a0_2 true _ A3.out).mono ?_); rintro e w16 ⟨rfl, hb⟩; refine ⟨_, rfl, ?_⟩; replace BK452 := bb_ BK452 z16_8_ hb; replace HB := Aside0.mk (below_step z16_6_ hb)) | (go_at_call 50; (with_reducible refine (impl_isHidden.calls k a1 false _ A5.out).mono ?_); rintro e w17 ⟨rfl, hb⟩; replace BK452 := bb_ BK452 z16_8_ hb; replace HB := Aside0.mk (below_step z16_6_ hb)))
 go_ret2
 exact ⟨zR_, zs19_3⟩

/-! ### impl_DropClue: function 31 -/
def impl_DropClue.f (k : Nat) (l0_0 : List (S46)) (a1 : Int) : Option ((List (S46)) × Bool) := (impl_IsPuzzle.f k l0_0).bind fun t458 => (if t458 = true then ((impl_within.f a1 0 (wrap64 ((l0_0.length : Int) - 1))).bind fun t459 => (if t459 = true then ((impl_dropped.f l0_0 a1).bind fun t460 => (some (t460, true))) else (some (([] : List (S46)), false)))) else (some (([] : List (S46)), false)))
theorem impl_DropClue.mono : ∀ a0 a1 k, LeO (impl_DropClue.f k a0 a1) (impl_DropClue.f (k + 1) a0 a1) := by
 intro a0 a1 k
 unfold impl_DropClue.f
 have m1_ := @impl_IsPuzzle.mono
 exact zM_
set_option maxHeartbeats 8000000 in
theorem impl_DropClue.calls (k : Nat) (A0_0 : Option Addr) (c0_0 : Nat) (l0_0 : List (S46)) (a1 : Int) (r1 : List (S46)) (r2 : Bool) (w : World) (hr0_0 : Kd.C k46 w A0_0 l0_0.length l0_0) (hc0_0 : l0_0.length ≤ c0_0) (h : impl_DropClue.f k l0_0 a1 = some (r1, r2)) :
 Calls Tryz.prog 31 #[.agg #[.slice A0_0 l0_0.length c0_0], .int .i64 a1] w fun e w' => ∃ v0_ : Value, e = .returned (.tuple #[.agg #[v0_], .bool r2]) ∧ Kd.R k46 46 w' w.heap.size (fun _ => True) v0_ r1 ∧ Below w.heap.size w w' := by
 have hu26 := Tryz.underlying26
 have HR0_0 := Aside0.mk hr0_0
 have HC0_0 := Aside0.mk hc0_0
 clear hr0_0 hc0_0
 have HB := Aside0.mk (Below.refl w.heap.size w)
 unfold impl_DropClue.f at h
 have H := h
 clear h
 replace H := bd_ H; obtain ⟨t458, A3, H⟩ := H
 by_cases c4 : t458 = true
 · subst c4
   rw [if_pos rfl] at H
   replace H := bd_ H; obtain ⟨t459, A5, H⟩ := H
   by_cases c6 : t459 = true
   · subst c6
     rw [if_pos rfl] at H
     replace H := bd_ H; obtain ⟨t460, A7, H⟩ := H
     simp only [Option.some.injEq, Prod.mk.injEq] at H
     obtain ⟨rfl, rfl⟩ := H
     go_enter Tryz.func31, Tryz.ntmps31
     go_wp2_with (first | (refine bxg_ 2 #[.slice A0_0 l0_0.length c0_0] 26 ?_; intro gb456 hg w8 hbox hb; have BK456 := Aside0.mk (hbox); have GW456 : Aside0 (w.heap.size ≤ gb456) := bs_ hg zB_; have GE456 := GW456; replace HB := Aside0.mk (below_step zB_ hb); clear hb hbox hg) | (refine bxg_ 4 #[.slice none 0 0] 26 ?_; intro gb457 hg w9 hbox hb; have BK457 := Aside0.mk (hbox); have GW457 : Aside0 (w.heap.size ≤ gb457) := bs_ hg z16_4_; have GE457 := GW457; replace HB := Aside0.mk (below_step z16_4_ hb); have NB456_457 := nl_ BK456 z16_2_ hg; have NB457_456 := ns_ NB456_457; replace BK456 := bb_ BK456 z16_2_ hb; clear hb hbox hg; have hnb10 := NB456_457.out; have hnc10 := NB457_456.out; have hcz11_0 : w9.cell? ⟨gb456, 0, none⟩ = some (.slice A0_0 l0_0.length c0_0) := (blk_cell BK456.out 0).trans rfl; have hfz11_0 := blk_frozen BK456.out 0) | ((with_reducible refine gc_ 26 rfl ?_); refine gL_ 7 Tryz.func26 #[.agg #[.slice A0_0 l0_0.length c0_0]] ?_; (with_reducible refine (impl_IsPuzzle.calls k _ _ l0_0 true _ ?side1 ?side2 A3.out).mono ?_); (case side1 => exact zc19_1_); (case side2 => exact HC0_0.out); rintro e w12 ⟨rfl, hb⟩; refine ⟨_, rfl, ?_⟩; replace BK456 := bb_ BK456 z16_2_ hb; replace BK457 := bb_ BK457 z16_9_ hb; replace HB := Aside0.mk (below_step z16_5_ hb); have hcz13_0 : w12.cell? ⟨gb456, 0, none⟩ = some (.slice A0_0 l0_0.length c0_0) := (blk_cell BK456.out 0).trans rfl; have hfz13_0 := blk_frozen BK456.out 0) | (go_at_call 52; (with_reducible refine (impl_within.calls a1 0 (wrap64 ((l0_0.length : Int) - 1)) true _ A5.out).mono ?_); rintro e w' ⟨rfl, ⟨nd, rfl⟩⟩; (try (rw [drewN_self w12]; generalize hq_ : World.drewN w12 _ = w12; have n0_ : Aside0 (w12.heap[gb456]? = some (.cells #[.slice A0_0 l0_0.length c0_0] 26 (0, 0))) := ⟨by rw [← hq_]; exact z16_2_⟩; have n1_ : Aside0 (w12.heap[gb457]? = some (.cells #[.slice none 0 0] 26 (0, 0))) := ⟨by rw [← hq_]; exact z16_9_⟩; have n2_ : Aside0 (Below w.heap.size w w12) := ⟨by rw [← hq_]; exact z16_5_⟩; clear BK456 BK457 HB hq_; have BK456 := n0_; have BK457 := n1_; have HB := n2_; clear n0_ n1_ n2_)); have hcz14_0 : w12.cell? ⟨gb456, 0, none⟩ = some (.slice A0_0 l0_0.length c0_0) := (blk_cell BK456.out 0).trans rfl; have hfz14_0 := blk_frozen BK456.out 0) | ((with_reducible refine gc_ 42 rfl ?_); refine gL_ 22 Tryz.func42 #[.slice A0_0 l0_0.length c0_0, .int .i64 a1] ?_; (with_reducible refine (impl_dropped.calls _ _ l0_0 a1 t460 _ ?side1 ?side2 A7.out).mono ?_); (case side1 => exact zc19_1_); (case side2 => exact HC0_0.out); rintro e w15 ⟨v461, rfl, ho0, hb⟩; refine ⟨_, rfl, ?_⟩; have HO462 := Aside0.mk (Kd.R_lower ho0 (below_size z16_5_)); replace BK456 := bb_ BK456 z16_2_ hb; replace BK457 := bb_ BK457 z16_9_ hb; replace HB := Aside0.mk (below_step z16_5_ hb); obtain ⟨Ao16, co16, eo16⟩ := Kd.R_slice HO462.out; subst eo16; have hcz17_0 : w15.cell? ⟨gb457, 0, none⟩ = some (.slice none 0 0) := (blk_cell BK457.out 0).trans rfl; have hfz17_0 := blk_frozen BK457.out 0))
     refine bodyPost_ret (results_ct rfl _ _ gb457 26 #[.slice Ao16 t460.length co16] (0, 0) _ rfl z16_7_ Tryz.underlying26 rfl (by kernel_rfl)) rfl ?_
     exact ⟨_, zs19_4, by refine rr_ ?_; exact Kd.R_mono (Kd.R_far (p := ⟨gb457, 0, none⟩) (Kd.R_types HO462.out BK457.out (by decide)) (fun _ hk => hk.2) (.slice Ao16 t460.length co16)) (fun _ hk => trivial), zs19_5⟩
   replace H := bf_ c6 H; obtain ⟨rfl, H⟩ := H
   simp only [Option.some.injEq, Prod.mk.injEq] at H
   obtain ⟨rfl, rfl⟩ := H
   go_enter Tryz.func31, Tryz.ntmps31
   go_wp2_with (first | (refine bxg_ 2 #[.slice A0_0 l0_0.length c0_0] 26 ?_; intro gb456 hg w18 hbox hb; have BK456 := Aside0.mk (hbox); have GW456 : Aside0 (w.heap.size ≤ gb456) := bs_ hg zB_; have GE456 := GW456; replace HB := Aside0.mk (below_step zB_ hb); clear hb hbox hg) | (refine bxg_ 4 #[.slice none 0 0] 26 ?_; intro gb457 hg w19 hbox hb; have BK457 := Aside0.mk (hbox); have GW457 : Aside0 (w.heap.size ≤ gb457) := bs_ hg z16_4_; have GE457 := GW457; replace HB := Aside0.mk (below_step z16_4_ hb); have NB456_457 := nl_ BK456 z16_2_ hg; have NB457_456 := ns_ NB456_457; replace BK456 := bb_ BK456 z16_2_ hb; clear hb hbox hg; have hnb20 := NB456_457.out; have hnc20 := NB457_456.out; have hcz21_0 : w19.cell? ⟨gb456, 0, none⟩ = some (.slice A0_0 l0_0.length c0_0) := (blk_cell BK456.out 0).trans rfl; have hfz21_0 := blk_frozen BK456.out 0) | ((with_reducible refine gc_ 26 rfl ?_); refine gL_ 7 Tryz.func26 #[.agg #[.slice A0_0 l0_0.length c0_0]] ?_; (with_reducible refine (impl_IsPuzzle.calls k _ _ l0_0 true _ ?side1 ?side2 A3.out).mono ?_); (case side1 => exact zc19_1_); (case side2 => exact HC0_0.out); rintro e w22 ⟨rfl, hb⟩; refine ⟨_, rfl, ?_⟩; replace BK456 := bb_ BK456 z16_2_ hb; replace BK457 := bb_ BK457 z16_9_ hb; replace HB := Aside0.mk (below_step z16_5_ hb); have hcz23_0 : w22.cell? ⟨gb456, 0, none⟩ = some (.slice A0_0 l0_0.length c0_0) := (blk_cell BK456.out 0).trans rfl; have hfz23_0 := blk_frozen BK456.out 0) | (go_at_call 52; (with_reducible refine (impl_within.calls a1 0 (wrap64 ((l0_0.length : Int) - 1)) false _ A5.out).mono ?_); rintro e w' ⟨rfl, ⟨nd, rfl⟩⟩; (try (rw [drewN_self w22]; generalize hq_ : World.drewN w22 _ = w22; have n0_ : Aside0 (w22.heap[gb456]? = some (.cells #[.slice A0_0 l0_0.length c0_0] 26 (0, 0))) := ⟨by rw [← hq_]; exact z16_2_⟩; have n1_ : Aside0 (w22.heap[gb457]? = some (.cells #[.slice none 0 0] 26 (0, 0))) := ⟨by rw [← hq_]; exact z16_9_⟩; have n2_ : Aside0 (Below w.heap.size w w22) := ⟨by rw [← hq_]; exact z16_5_⟩; clear BK456 BK457 HB hq_; have BK456 := n0_; have BK457 := n1_; have HB := n2_; clear n0_ n1_ n2_)); have hcz24_0 : w22.cell? ⟨gb457, 0, none⟩ = some (.slice none 0 0) := (blk_cell BK457.out 0).trans rfl; have hfz24_0 := blk_frozen BK457.out 0))
   refine bodyPost_ret (results_ct rfl _ _ gb457 26 #[.slice none 0 0] (0, 0) _ rfl z16_7_ Tryz.underlying26 rfl (by kernel_rfl)) rfl ?_
   exact ⟨_, zs19_4, zs19_6, zs19_5⟩
 replace H := bf_ c4 H; obtain ⟨rfl, H⟩ := H
 simp only [Option.some.injEq, Prod.mk.injEq] at H
 obtain ⟨rfl, rfl⟩ := H
 go_enter Tryz.func31, Tryz.ntmps31
 go_wp2_with (first | (refine bxg_ 2 #[.slice A0_0 l0_0.length c0_0] 26 ?_; intro gb456 hg w25 hbox hb; have BK456 := Aside0.mk (hbox); have GW456 : Aside0 (w.heap.size ≤ gb456) := bs_ hg zB_; have GE456 := GW456; replace HB := Aside0.mk (below_step zB_ hb); clear hb hbox hg) | (refine bxg_ 4 #[.slice none 0 0] 26 ?_; intro gb457 hg w26 hbox hb; have BK457 := Aside0.mk (hbox); have GW457 : Aside0 (w.heap.size ≤ gb457) := bs_ hg z16_4_; have GE457 := GW457; replace HB := Aside0.mk (below_step z16_4_ hb); have NB456_457 := nl_ BK456 z16_2_ hg; have NB457_456 := ns_ NB456_457; replace BK456 := bb_ BK456 z16_2_ hb; clear hb hbox hg; have hnb27 := NB456_457.out; have hnc27 := NB457_456.out; have hcz28_0 : w26.cell? ⟨gb456, 0, none⟩ = some (.slice A0_0 l0_0.length c0_0) := (blk_cell BK456.out 0).trans rfl; have hfz28_0 := blk_frozen BK456.out 0) | ((with_reducible refine gc_ 26 rfl ?_); refine gL_ 7 Tryz.func26 #[.agg #[.slice A0_0 l0_0.length c0_0]] ?_; (with_reducible refine (impl_IsPuzzle.calls k _ _ l0_0 false _ ?side1 ?side2 A3.out).mono ?_); (case side1 => exact zc19_1_); (case side2 => exact HC0_0.out); rintro e w29 ⟨rfl, hb⟩; refine ⟨_, rfl, ?_⟩; replace BK456 := bb_ BK456 z16_2_ hb; replace BK457 := bb_ BK457 z16_9_ hb; replace HB := Aside0.mk (below_step z16_5_ hb); have hcz30_0 : w29.cell? ⟨gb457, 0, none⟩ = some (.slice none 0 0) := (blk_cell BK457.out 0).trans rfl; have hfz30_0 := blk_frozen BK457.out 0))
 refine bodyPost_ret (results_ct rfl _ _ gb457 26 #[.slice none 0 0] (0, 0) _ rfl z16_7_ Tryz.underlying26 rfl (by kernel_rfl)) rfl ?_
 exact ⟨_, zs19_4, zs19_6, zs19_5⟩

/-! ### laws_iHas: function 32 -/
def laws_iHas.l0 : Nat → Int → List Int → Int → Int → Option (Bool)
 | 0, _, _, _, _ => none
 | k + 1, x1, x7, x8, x9 => if x9 < x8 then (if 0 ≤ x9 then (if x9 < (x7.length : Int) then (if (rd x7 x9) = x1 then (some true) else (laws_iHas.l0 k x1 x7 x8 (wrap64 (x9 + 1)))) else (none)) else (none)) else (some false)
def laws_iHas.f (k : Nat) (l0 : List Int) (a1 : Int) : Option (Bool) := laws_iHas.l0 k a1 l0 (l0.length : Int) 0
theorem laws_iHas.mono_l : ∀ k, (∀ y0 y1 y2 y3, LeO (laws_iHas.l0 k y0 y1 y2 y3) (laws_iHas.l0 (k + 1) y0 y1 y2 y3))
 | 0 => fun _ _ _ _ r h => by simp [laws_iHas.l0] at h
 | k + 1 => by
  have ih0 := laws_iHas.mono_l k
  intro y0 y1 y2 y3
  unfold laws_iHas.l0
  have m1_ := @ih0
  exact zM_
theorem laws_iHas.mono : ∀ a0 a1 k, LeO (laws_iHas.f k a0 a1) (laws_iHas.f (k + 1) a0 a1) := by
 intro a0 a1 k
 have ih0 := laws_iHas.mono_l k
 unfold laws_iHas.f
 have m1_ := @ih0
 exact zM_
set_option maxHeartbeats 8000000 in
theorem laws_iHas.calls (k : Nat) (A0 : Option Addr) (c0 : Nat) (l0 : List Int) (a1 : Int) (r : Bool) (w : World) (hr0 : Kd.C (Kd.int .i64) w A0 l0.length l0) (hc0 : l0.length ≤ c0) (h : laws_iHas.f k l0 a1 = some r) :
 Calls Tryz.prog 32 #[.slice A0 l0.length c0, .int .i64 a1] w fun e w' => e = .returned (.bool r) ∧ Drawn0 w w' := by
 have HR0 := Aside0.mk hr0
 have HC0 := Aside0.mk hc0
 clear hr0 hc0
 unfold laws_iHas.f at h
 have H := h
 clear h
 have H' := Aside0.mk H
 clear H
 go_enter Tryz.func32, Tryz.ntmps32
 go_wp2
 go_loopg [9] k (fun kq v9 w' => ∃ (x9_1 : Int), v9 = .int .i64 x9_1 ∧ Aside0 (laws_iHas.l0 kq a1 l0 (l0.length : Int) x9_1 = some r) ∧ Aside0 (kq ≤ k) ∧ Drawn0 w w')
 case atStart => exact ⟨(0), zV_, H', ⟨Nat.le_refl _⟩, zs19_1⟩
 case round =>
  clear H'
  try clear p2
  obtain ⟨x9_1, rfl, HA, HK1, ⟨m1, rfl⟩⟩ := hrel
  cases gk with
  | zero => exact absurd HA.out (by simp [laws_iHas.l0])
  | succ k1 =>
   have H := HA.out
   clear HA
   simp only [laws_iHas.l0] at H
   by_cases c3 : x9_1 < (l0.length : Int)
   rotate_left
   · rw [if_neg c3] at H
     have c3b0 := decide_eq_false c3
     clear c3
     obtain rfl := Option.some.inj H
     go_wp2
     go_ret
     exact ⟨zs19_0, zs19_1⟩
   rw [if_pos c3] at H
   have c3b0 := decide_eq_true c3
   clear c3
   replace H := gd_ H; obtain ⟨c4, H⟩ := H
   have c4b0 : decide (0 ≤ x9_1) = true := decide_eq_true c4
   clear c4
   replace H := gd_ H; obtain ⟨c5, H⟩ := H
   have c5b0 : decide (x9_1 < (l0.length : Int)) = true := decide_eq_true c5
   clear c5
   by_cases c6 : (rd l0 x9_1) = a1
   · obtain ⟨H, c6b0, c6b1⟩ := ep_ c6 H
     clear c6
     obtain rfl := Option.some.inj H
     have p463 : 0 ≤ (x9_1 : Int) := of_decide_eq_true zS_
     have q463 : x9_1 < (l0.length : Int) := of_decide_eq_true zS_
     obtain ⟨ad463, e463, hx463_0⟩ := Kd.at_int HR0.out x9_1 p463 q463
     cases e463
     replace p463 := eq_true p463
     replace q463 := eq_true q463
     go_wp2
     go_ret
     exact ⟨zs19_0, zs19_1⟩
   obtain ⟨H, c6b0, c6b1⟩ := en_ c6 H
   have H' := Aside0.mk H
   clear H
   have p463 : 0 ≤ (x9_1 : Int) := of_decide_eq_true zS_
   have q463 : x9_1 < (l0.length : Int) := of_decide_eq_true zS_
   obtain ⟨ad463, e463, hx463_0⟩ := Kd.at_int HR0.out x9_1 p463 q463
   cases e463
   replace p463 := eq_true p463
   replace q463 := eq_true q463
   go_wp2
   go_roundg k1
   case measure => have := HK1.out; omega
   case rel => exact ⟨(wrap64 (x9_1 + 1)), zV_, H', ⟨zs19_2⟩, zs19_1⟩

/-! ### strings_Split: function 53 -/
theorem strings_Split.reps (W : World) (base : Nat) (ok : Nat → Prop) (xs : List ByteArray) : Reps (Kd.string.M W base ok) 1 xs (xs.map Value.string) := by
 refine ⟨by simp, fun j p hj => ?_⟩
 obtain ⟨hl, hp⟩ := List.getElem?_eq_some_iff.1 hj
 have e : ((xs.map Value.string).drop (j * 1)).take 1 = [Value.string p] := by
  rw [Nat.mul_one, List.drop_eq_getElem_cons (by simpa using hl), List.take_succ_cons, List.take_zero, List.getElem_map, hp]
 rw [e]
 exact rfl
theorem strings_Split.row (W : World) (e : Nat) (xs : List ByteArray) (hm : xs.length ≤ 9223372036854775807) : Kd.R Kd.string e (W.alloc (.cells (xs.map Value.string).toArray e)) W.heap.size (fun _ => True) (.slice (some ⟨W.heap.size, 0, none⟩) xs.length xs.length) xs := by
 refine ⟨fun _ _ => trivial, xs.map Value.string, ?_, strings_Split.reps _ _ _ xs⟩
 have h2 := World.ownsRow_lit (base := W.heap.size) (e := e) (size := 1) W (xs.map Value.string).toArray xs.length (Nat.le_refl _) (by simpa [maxLen] using hm) (by simp)
 have h3 : (W.alloc (.cells (xs.map Value.string).toArray e)).ownsRow W.heap.size e 1 (.slice (some ⟨W.heap.size, 0, none⟩) xs.length xs.length) xs.length (xs.map Value.string) := by simpa using h2
 exact h3
def strings_Split.f (a0 a1 : ByteArray) : Option (List ByteArray) := if a0.size < 4294967281 then (if 1 ≤ a1.size then some (Lib.splitB a1 0 (Lib.countB a0 a1) a0) else none) else none
theorem strings_Split.calls (a0 a1 : ByteArray) (r : List ByteArray) (w : World) (hT : Shelf.TabOk w) (h : strings_Split.f a0 a1 = some r) :
 Calls Tryz.prog 53 #[.string a0, .string a1] w fun e w' => ∃ v0_ : Value, e = .returned (v0_) ∧ Kd.R Kd.string 9 w' w.heap.size (fun _ => True) v0_ r ∧ Below w.heap.size w w' := by
 unfold strings_Split.f at h
 by_cases h0 : a0.size < 4294967281
 rotate_left
 · exact none_ (if_neg h0) h
 rw [if_pos h0] at h
 by_cases h1 : 1 ≤ a1.size
 rotate_left
 · exact none_ (if_neg h1) h
 rw [if_pos h1] at h
 obtain rfl := Option.some.inj h
 have hle := Lib.countB_le a1 h1 a0.size a0 (Nat.le_refl _)
 have hlen := Lib.splitB_all a1 h1 0 _ a0 rfl
 refine (Shelf.Split a0 a1 w hT h0 h1).mono ?_
 rintro e w' ⟨rfl, rfl⟩
 refine ⟨_, rfl, ?_, below_alloc (Below.refl _ _) _⟩
 have hr := strings_Split.row w 9 (Lib.splitB a1 0 (Lib.countB a0 a1) a0) (by omega)
 rw [hlen] at hr
 exact hr

theorem z17_0_ {p : Prop} (h : p := by repeat (first | (with_reducible first | exact HK.out | apply KeepBut.set_ | apply keep_drewN | apply keep_drew | apply keep_alloc) | exact HK.out)) : p := h
theorem z17_1_ {p : Prop} (h : p := by repeat (first | (with_reducible first | exact HB.out | apply below_alloc | apply pw_below_drewN | apply below_drew1 | refine below_set ?_ GE464.out) | exact HB.out)) : p := h
theorem z17_3_ {p : Prop} (h : p := by exact b_ BK464.out) : p := h
theorem z17_5_ {p : Prop} (h : p := by refine b_ ?_; refine blk_put (cs := #[.slice none 0 0]) ?_ 0 _ rfl; exact b_ BK2.out) : p := h
theorem z17_6_ {p : Prop} (h : p := by repeat (first | (with_reducible first | exact HB.out | apply below_alloc | apply pw_below_drewN | apply below_drew1 | refine below_set ?_ (IsS68.ge HI0.out)) | exact HB.out)) : p := h
theorem z17_7_ {p : Prop} (h : p := by repeat (first | (with_reducible first | exact HI0.out | apply IsS68.alloc | apply IsS68.drewN | apply IsS68.drew | apply IsS68.set_1 | apply IsS68.set_2) | exact HI0.out)) : p := h
theorem z17_8_ {p : Prop} (h : p := by exact rr_ HO479.out) : p := h

attribute [local go_sem high] eqA46
/-! ### impl_number: function 54 -/
-- behind 60 52
def impl_number.itoa (a0 : Int) : Option ByteArray := if -9223372036854775808 ≤ a0 then (if a0 ≤ 9223372036854775807 then some ⟨(Lib.itoa a0).toArray⟩ else none) else none
theorem impl_number.itoa_calls (a0 : Int) (r : ByteArray) (w : World) (hT : Shelf.TabOk w) (h : impl_number.itoa a0 = some r) :
 Calls Tryz.prog 60 #[.int .i64 a0] w fun e w' => e = .returned (.string r) ∧ Below w.heap.size w w' := by
 unfold impl_number.itoa at h
 by_cases h0 : -9223372036854775808 ≤ a0
 rotate_left
 · exact none_ (if_neg h0) h
 rw [if_pos h0] at h
 by_cases h1 : a0 ≤ 9223372036854775807
 rotate_left
 · exact none_ (if_neg h1) h
 rw [if_pos h1] at h
 obtain rfl := Option.some.inj h
 exact Shelf.Itoa_all a0 h0 h1 w hT
def impl_number.val (s : ByteArray) : Option Int := match Lib.atoiAll s.data.toList with
 | .ok v => some v
 | _ => none
def impl_number.f (a0 : ByteArray) (a1 : Int) : Option (Int × Bool) := if a0.size ≤ 1000000000 then (match impl_number.val a0 with
 | some v => (impl_number.itoa v).bind fun t => (if t.toList = a0.toList then (impl_within.f v 0 a1).bind fun b => (if b = true then some (v, true) else some (0, false)) else some (0, false))
 | none => some (0, false)) else none
set_option maxHeartbeats 8000000 in
theorem impl_number.calls (a0 : ByteArray) (a1 : Int) (r1 : Int) (r2 : Bool) (w : World) (hT : Shelf.TabOk w) (h : impl_number.f a0 a1 = some (r1, r2)) :
 Calls Tryz.prog 54 #[.string a0, .int .i64 a1] w fun e w' => e = .returned (.tuple #[.int .i64 r1, .bool r2]) ∧ Below w.heap.size w w' := by
 have HT := Aside0.mk hT
 unfold impl_number.f at h
 by_cases hz : a0.size ≤ 1000000000
 rotate_left
 · exact none_ (if_neg hz) h
 rw [if_pos hz] at h
 have HZ := Aside0.mk hz
 clear hT hz
 cases hv : impl_number.val a0 with
 | none =>
  rw [hv] at h
  simp only [Option.some.injEq, Prod.mk.injEq] at h
  obtain ⟨rfl, rfl⟩ := h
  have hn : ∀ v, Lib.atoiAll a0.data.toList ≠ .ok v := fun v e => by unfold impl_number.val at hv; rw [e] at hv; cases hv
  have HN := Aside0.mk hn
  clear hv hn
  go_enter Tryz.func54, Tryz.ntmps54
  go_wp2_with (first | (go_at_call 73; (with_reducible refine (Shelf.Atoi_bad a0 _ HT.out HZ.out HN.out).mono ?_); rintro e w6 ⟨v6, t6, p6, rfl, hb⟩; have HB := Aside0.mk hb; clear hb))
  go_ret2
  exact ⟨rfl, zs19_7⟩
 | some v =>
  rw [hv] at h
  dsimp only at h
  obtain ⟨t, ht, h⟩ := Option.bind_eq_some_iff.mp h
  have hok : Lib.atoiAll a0.data.toList = .ok v := by
   unfold impl_number.val at hv
   rcases hc : Lib.atoiAll a0.data.toList with u | _ | _
   · rw [hc] at hv; injection hv with hv; rw [hv]
   · rw [hc] at hv; cases hv
   rw [hc] at hv; cases hv
  have HOK := Aside0.mk hok
  have HI := Aside0.mk ht
  clear hv hok ht
  by_cases q : t.toList = a0.toList
  · rw [if_pos q] at h
    obtain ⟨b, hb0, h⟩ := Option.bind_eq_some_iff.mp h
    have HW := Aside0.mk hb0
    have q1 : (t.toList == a0.toList) = true := beq_iff_eq.mpr q
    have q2 : (t.toList != a0.toList) = false := bne_eq_false_iff_eq.mpr q
    clear q hb0
    cases b with
    | true =>
     rw [if_pos rfl] at h
     simp only [Option.some.injEq, Prod.mk.injEq] at h
     obtain ⟨rfl, rfl⟩ := h
     go_enter Tryz.func54, Tryz.ntmps54
     go_wp2_with (first | (go_at_call 73; (with_reducible refine (Shelf.Atoi_ok a0 _ HZ.out _ HOK.out).mono ?_); rintro e w6 ⟨rfl, hb⟩; have HB := Aside0.mk hb; clear hb) | (go_at_call 60; (with_reducible refine (impl_number.itoa_calls _ t _ (Shelf.TabOk.below HT.out HB.out) HI.out).mono ?_); rintro e w7 ⟨rfl, hb⟩; replace HB := Aside0.mk (below_step HB.out hb); clear hb) | (go_at_call 52; (with_reducible refine (impl_within.calls _ 0 a1 true _ HW.out).mono ?_); rintro e w' ⟨rfl, ⟨nd, rfl⟩⟩))
     go_ret2
     exact ⟨rfl, zs19_7⟩
    | false =>
     rw [if_neg (by decide)] at h
     simp only [Option.some.injEq, Prod.mk.injEq] at h
     obtain ⟨rfl, rfl⟩ := h
     go_enter Tryz.func54, Tryz.ntmps54
     go_wp2_with (first | (go_at_call 73; (with_reducible refine (Shelf.Atoi_ok a0 _ HZ.out _ HOK.out).mono ?_); rintro e w6 ⟨rfl, hb⟩; have HB := Aside0.mk hb; clear hb) | (go_at_call 60; (with_reducible refine (impl_number.itoa_calls _ t _ (Shelf.TabOk.below HT.out HB.out) HI.out).mono ?_); rintro e w7 ⟨rfl, hb⟩; replace HB := Aside0.mk (below_step HB.out hb); clear hb) | (go_at_call 52; (with_reducible refine (impl_within.calls _ 0 a1 false _ HW.out).mono ?_); rintro e w' ⟨rfl, ⟨nd, rfl⟩⟩))
     go_ret2
     exact ⟨rfl, zs19_7⟩
  rw [if_neg q] at h
  simp only [Option.some.injEq, Prod.mk.injEq] at h
  obtain ⟨rfl, rfl⟩ := h
  have q1 : (t.toList == a0.toList) = false := beq_eq_false_iff_ne.mpr q
  have q2 : (t.toList != a0.toList) = true := bne_iff_ne.mpr q
  clear q
  go_enter Tryz.func54, Tryz.ntmps54
  go_wp2_with (first | (go_at_call 73; (with_reducible refine (Shelf.Atoi_ok a0 _ HZ.out _ HOK.out).mono ?_); rintro e w6 ⟨rfl, hb⟩; have HB := Aside0.mk hb; clear hb) | (go_at_call 60; (with_reducible refine (impl_number.itoa_calls _ t _ (Shelf.TabOk.below HT.out HB.out) HI.out).mono ?_); rintro e w7 ⟨rfl, hb⟩; replace HB := Aside0.mk (below_step HB.out hb); clear hb))
  go_ret2
  exact ⟨rfl, zs19_7⟩

/-! ### impl_ParsePuzzle: function 33 -/
-- behind 53 54 26 44
def impl_ParsePuzzle.arr (parts : List ByteArray) : Nat → Nat → List Int → Option (List Int)
 | 0, _, l => some l
 | c + 1, i, l => (impl_number.f (rdOf ByteArray.empty parts (i : Int)) 20).bind fun r => impl_ParsePuzzle.arr parts c (i + 1) (l.set i r.1)
def impl_ParsePuzzle.go (words : List ByteArray) : Nat → Nat → List S46 → Option (List S46)
 | 0, _, out => some out
 | c + 1, j, out => (strings_Split.f (rdOf ByteArray.empty words (j : Int)) (⟨#[46]⟩ : ByteArray)).bind fun parts => (impl_ParsePuzzle.arr parts (min parts.length 3) 0 [0, 0, 0]).bind fun l => impl_ParsePuzzle.go words c (j + 1) (out ++ [(⟨rd l 0, rd l 1, rd l 2⟩ : S46)])
def impl_ParsePuzzle.f (k : Nat) (a0 : ByteArray) : Option ((List (S46)) × Bool) := if a0.toList = [] then some ([], true) else (strings_Split.f a0 (⟨#[44]⟩ : ByteArray)).bind fun words => if words.length ≤ 5000000000 then (impl_ParsePuzzle.go words words.length 0 []).bind fun l => (impl_IsPuzzle.f k l).bind fun b => (if b = true then (impl_puzzleText.f k l).bind fun t => (if t.toList = a0.toList then some (l, true) else some ([], false)) else some ([], false)) else none
theorem impl_ParsePuzzle.mono : ∀ a0 k, LeO (impl_ParsePuzzle.f k a0) (impl_ParsePuzzle.f (k + 1) a0) := by
 intro a0 k
 unfold impl_ParsePuzzle.f
 exact LeO.ite (LeO.refl _) (LeO.bind (LeO.refl _) (fun _ => LeO.ite (LeO.bind (LeO.refl _) (fun _ => LeO.bind (impl_IsPuzzle.mono _ _) (fun _ => LeO.ite (LeO.bind (impl_puzzleText.mono _ _) (fun _ => LeO.refl _)) (LeO.refl _)))) (LeO.refl _)))
theorem impl_ParsePuzzle.succ_ (n : Nat) (h : n < 4611686018427387904) : Value.int .i64 (wrap64 ((n : Int) + 1)) = Value.int .i64 ((n + 1 : Nat) : Int) := by
 have : wrap64 ((n : Int) + 1) = ((n + 1 : Nat) : Int) := by simp [wrap64]; omega
 rw [this]
theorem impl_ParsePuzzle.set_ (l : List Int) (i : Nat) (v : Int) : (l.map (Value.int .i64)).toArray.setIfInBounds i (.int .i64 v) = ((l.set i v).map (Value.int .i64)).toArray := by
 simp [List.map_set]
theorem impl_ParsePuzzle.len_ (l : List Int) (i : Nat) (h : i < l.length) : (l.map (Value.int .i64)).toArray[i]? = some (.int .i64 (l.getD i 0)) := by
 simp [h]
set_option maxHeartbeats 16000000 in
theorem impl_ParsePuzzle.calls (k : Nat) (a0 : ByteArray) (r1 : List (S46)) (r2 : Bool) (w : World) (hT : Shelf.TabOk w) (h : impl_ParsePuzzle.f k a0 = some (r1, r2)) :
 Calls Tryz.prog 33 #[.string a0] w fun e w' => ∃ v0_ : Value, e = .returned (.tuple #[.agg #[v0_], .bool r2]) ∧ Kd.R k46 46 w' w.heap.size (fun _ => True) v0_ r1 ∧ Below w.heap.size w w' := by
 have hu30 := Tryz.underlying26
 have HT := Aside0.mk hT
 have HB := Aside0.mk (Below.refl w.heap.size w)
 have H0 := Aside0.mk h
 clear hT h
 go_enter Tryz.func33, Tryz.ntmps33
 go_upto_region 2 with (first | (refine bx_ 2 #[.slice none 0 0] 26 ?_; intro gb2 hg w2 hbox hb; have n0_ := Aside0.mk (below_step HB.out hb); have BK2 := Aside0.mk hbox; have GE2 := Aside0.mk ((by rw [hg]; exact below_size HB.out : w.heap.size ≤ gb2)); clear HB; have HB := n0_; clear n0_ hb hbox hg) | (refine bx_ 4 #[.slice none 0 0] 26 ?_; intro gb4 hg w4 hbox hb; have NB2_4 := Aside0.mk ((by rw [hg]; exact Nat.ne_of_lt (blk_lt BK2.out) : gb2 ≠ gb4)); have m0_ := Aside0.mk (blk_below BK2.out hb); clear BK2; have BK2 := m0_; clear m0_; have n0_ := Aside0.mk (below_step HB.out hb); have BK4 := Aside0.mk hbox; have GE4 := Aside0.mk ((by rw [hg]; exact below_size HB.out : w.heap.size ≤ gb4)); clear HB; have HB := n0_; clear n0_ hb hbox hg; have hcz4 : w4.cell? ⟨gb4, 0, none⟩ = some (.slice none 0 0) := (blk_cell BK4.out 0).trans rfl; have hfz4 := blk_frozen BK4.out 0))
 have n1_ := Aside0.mk (blk_far (p := ⟨gb4, 0, none⟩) BK2.out NB2_4.out (.slice none 0 0))
 have n2_ := Aside0.mk (blk_put BK4.out 0 (.slice none 0 0) rfl)
 have n3_ := Aside0.mk (below_set (g := gb4) (j := 0) (v := .slice none 0 0) HB.out GE4.out)
 clear hcz4 hfz4
 generalize w4.setCell ⟨gb4, 0, none⟩ (.slice none 0 0) = w5 at n1_ n2_ n3_ ⊢
 clear BK2 BK4 HB
 have BK2 := n1_
 have BK4 := n2_
 have HB := n3_
 clear n1_ n2_ n3_
 have h := H0.out
 clear H0
 unfold impl_ParsePuzzle.f at h
 by_cases q : a0.toList = []
 · rw [if_pos q] at h
   simp only [Option.some.injEq, Prod.mk.injEq] at h
   obtain ⟨rfl, rfl⟩ := h
   have q1 : (a0.toList == ([] : List UInt8)) = true := beq_iff_eq.mpr q
   clear q
   have hcz4 : w5.cell? ⟨gb4, 0, none⟩ = some (.slice none 0 0) := (blk_cell BK4.out 0).trans rfl
   have hcz2 : w5.cell? ⟨gb2, 0, none⟩ = some (.slice none 0 0) := (blk_cell BK2.out 0).trans rfl
   have hfz2 := blk_frozen BK2.out 0
   go_wp2
   refine bodyPost_ret (results_ct rfl _ _ gb2 26 #[.slice none 0 0] (0, 0) _ rfl z17_5_ Tryz.underlying26 rfl (by kernel_rfl)) rfl ?_
   exact ⟨_, zs19_8, Kd.R_nil _ _ _ _ _, zs19_9⟩
 rw [if_neg q] at h
 have q1 : (a0.toList == ([] : List UInt8)) = false := beq_eq_false_iff_ne.mpr q
 clear q
 obtain ⟨words, hws, h⟩ := Option.bind_eq_some_iff.mp h
 by_cases hwl : words.length ≤ 5000000000
 rotate_left
 · exact none_ (if_neg hwl) h
 rw [if_pos hwl] at h
 obtain ⟨L, hgo, h⟩ := Option.bind_eq_some_iff.mp h
 have HWS := Aside0.mk hws
 have HWL := Aside0.mk hwl
 have HGO := Aside0.mk (show impl_ParsePuzzle.go words (words.length - 0) 0 [] = some L from hgo)
 have HEND := Aside0.mk h
 clear hws hwl hgo h
 go_wp2_with (first | (go_at_call 53; (with_reducible refine (strings_Split.calls a0 (⟨#[44]⟩ : ByteArray) words _ (Shelf.TabOk.below HT.out HB.out) HWS.out).mono ?_); rintro e w6 ⟨v6, rfl, ho, hb⟩; have HOW := Aside0.mk (Kd.R_lower ho (below_size HB.out)); have n1_ := Aside0.mk (blk_below BK2.out hb); have n2_ := Aside0.mk (blk_below BK4.out hb); have n3_ := Aside0.mk (below_step HB.out hb); clear BK2 BK4 HB ho hb; have BK2 := n1_; have BK4 := n2_; have HB := n3_; clear n1_ n2_ n3_; obtain ⟨AW, cW, eW⟩ := Kd.R_slice HOW.out; subst eW))
 go_loopg [17] (words.length + 1) (fun kq v17 w' => ∃ (n : Nat) (out : List S46) (u : Value), v17 = .int .i64 (n : Int) ∧ Aside0 (n + kq = words.length + 1) ∧ Aside0 (out.length ≤ n) ∧ Aside0 (impl_ParsePuzzle.go words (words.length - n) n out = some L) ∧ Aside0 (Kd.R k46 46 w' w.heap.size (fun _ => True) u out) ∧ Aside0 (Kd.R Kd.string 9 w' w.heap.size (fun _ => True) (.slice AW words.length cW) words) ∧ Aside0 (w'.heap[gb2]? = some (.cells #[.slice none 0 0] 26 (0, 0))) ∧ Aside0 (w'.heap[gb4]? = some (.cells #[u] 26 (0, 0))) ∧ Aside0 (Below w.heap.size w w'))
 case atStart => exact ⟨0, [], .slice none 0 0, rfl, ⟨by omega⟩, ⟨Nat.le_refl _⟩, HGO, ⟨Kd.R_nil _ _ _ _ _⟩, HOW, BK2, BK4, HB⟩
 case round =>
  clear HGO BK2 BK4 HB HOW
  obtain ⟨n, out, u, rfl, HN, HL, HA, HO, HOW, BK2, BK4, HB⟩ := hrel
  by_cases c : n < words.length
  · have c1 : decide ((n : Int) < (words.length : Int)) = true := decide_eq_true (by omega)
    have c2 : decide (n < words.length) = true := decide_eq_true c
    have h := HA.out
    rw [show words.length - n = (words.length - (n + 1)) + 1 by omega] at h
    unfold impl_ParsePuzzle.go at h
    obtain ⟨T, hT⟩ : ∃ T, T = rdOf ByteArray.empty words (n : Int) := ⟨_, rfl⟩
    rw [← hT] at h
    obtain ⟨parts, hp, h⟩ := Option.bind_eq_some_iff.mp h
    obtain ⟨l, hl, h⟩ := Option.bind_eq_some_iff.mp h
    obtain ⟨ad, e1, hx⟩ := Kd.at_string (Kd.R_reads' HOW.out).2.2 (n : Int) (by omega) (by omega)
    cases e1
    rw [← hT] at hx
    simp only [Int.toNat_natCast] at hx
    have p1 : (0 ≤ (n : Int)) = True := eq_true (by omega)
    have q1 : ((n : Int) < (words.length : Int)) = True := eq_true (by omega)
    obtain ⟨m, hm⟩ : ∃ m, m = min parts.length 3 := ⟨_, rfl⟩
    rw [← hm] at hl
    have HM := Aside0.mk hm
    have HPA := Aside0.mk hp
    have HAR := Aside0.mk (show impl_ParsePuzzle.arr parts (m - 0) 0 [0, 0, 0] = some l from hl)
    have HA2 := Aside0.mk h
    have HC := Aside0.mk c
    clear HA h hT hp hl hm c
    go_upto_region 8 with (first | (refine bx_ 7 #[.int .i64 0, .int .i64 0, .int .i64 0] 63 ?_; intro gb7 hg w7 hbox hb; have m0_ := Aside0.mk (Kd.R_below HO.out hb); have m1_ := Aside0.mk (Kd.R_below HOW.out hb); have m2_ := Aside0.mk (blk_below BK2.out hb); have m4_ := Aside0.mk (blk_below BK4.out hb); have NB2_7 := Aside0.mk ((by rw [hg]; exact Nat.ne_of_lt (blk_lt BK2.out) : gb2 ≠ gb7)); have NB4_7 := Aside0.mk ((by rw [hg]; exact Nat.ne_of_lt (blk_lt BK4.out) : gb4 ≠ gb7)); clear HO HOW BK2 BK4; have HO := m0_; have HOW := m1_; have BK2 := m2_; have BK4 := m4_; clear m0_ m1_ m2_ m4_; have n0_ := Aside0.mk (below_step HB.out hb); have BK7 := Aside0.mk hbox; have GE7 := Aside0.mk ((by rw [hg]; exact below_size HB.out : w.heap.size ≤ gb7)); clear HB; have HB := n0_; clear n0_ hb hbox hg; have hcz0 : w7.cell? ⟨gb7, 0, none⟩ = some (.int .i64 0) := (blk_cell BK7.out 0).trans rfl; have hcz1 : w7.cell? ⟨gb7, 1, none⟩ = some (.int .i64 0) := (blk_cell BK7.out 1).trans rfl; have hcz2 : w7.cell? ⟨gb7, 2, none⟩ = some (.int .i64 0) := (blk_cell BK7.out 2).trans rfl; have hfz0 := blk_frozen BK7.out 0; have hfz1 := blk_frozen BK7.out 1; have hfz2 := blk_frozen BK7.out 2))
    have s0_ := blk_put BK7.out 0 (.int .i64 0) rfl
    have s1_ := blk_put s0_ 1 (.int .i64 0) rfl
    have s2_ := blk_put s1_ 2 (.int .i64 0) rfl
    have n0_ := Aside0.mk (Kd.R_set (Kd.R_set (Kd.R_set HO.out BK7.out (by decide) 0 (.int .i64 0)) s0_ (by decide) 1 (.int .i64 0)) s1_ (by decide) 2 (.int .i64 0))
    have n1_ := Aside0.mk (Kd.R_set (Kd.R_set (Kd.R_set HOW.out BK7.out (by decide) 0 (.int .i64 0)) s0_ (by decide) 1 (.int .i64 0)) s1_ (by decide) 2 (.int .i64 0))
    have n2_ := Aside0.mk (blk_far (p := ⟨gb7, 2, none⟩) (blk_far (p := ⟨gb7, 1, none⟩) (blk_far (p := ⟨gb7, 0, none⟩) BK2.out NB2_7.out (.int .i64 0)) NB2_7.out (.int .i64 0)) NB2_7.out (.int .i64 0))
    have n3_ := Aside0.mk (blk_far (p := ⟨gb7, 2, none⟩) (blk_far (p := ⟨gb7, 1, none⟩) (blk_far (p := ⟨gb7, 0, none⟩) BK4.out NB4_7.out (.int .i64 0)) NB4_7.out (.int .i64 0)) NB4_7.out (.int .i64 0))
    have n4_ := Aside0.mk (below_set (g := gb7) (j := 2) (v := .int .i64 0) (below_set (g := gb7) (j := 1) (v := .int .i64 0) (below_set (g := gb7) (j := 0) (v := .int .i64 0) HB.out GE7.out) GE7.out) GE7.out)
    have n5_ := Aside0.mk (show (((w7.setCell ⟨gb7, 0, none⟩ (.int .i64 0)).setCell ⟨gb7, 1, none⟩ (.int .i64 0)).setCell ⟨gb7, 2, none⟩ (.int .i64 0)).heap[gb7]? = some (.cells (([0, 0, 0] : List Int).map (Value.int .i64)).toArray 63 (0, 0)) from s2_)
    clear s0_ s1_ s2_ hcz0 hcz1 hcz2 hfz0 hfz1 hfz2 hx HO HOW BK2 BK4 BK7 HB
    generalize ((w7.setCell ⟨gb7, 0, none⟩ (.int .i64 0)).setCell ⟨gb7, 1, none⟩ (.int .i64 0)).setCell ⟨gb7, 2, none⟩ (.int .i64 0) = w8 at n0_ n1_ n2_ n3_ n4_ n5_ ⊢
    have HO := n0_
    have HOW := n1_
    have BK2 := n2_
    have BK4 := n3_
    have HB := n4_
    have BK7 := n5_
    clear n0_ n1_ n2_ n3_ n4_ n5_
    have hmn : min (parts.length : Int) 3 = (m : Int) := by rw [HM.out]; omega
    have hmx : mn (parts.length : Int) 3 = (m : Int) := by rw [HM.out]; unfold mn; first | omega | (split <;> omega)
    go_wp2_with (first | (go_at_call 53; (with_reducible refine (strings_Split.calls T (⟨#[46]⟩ : ByteArray) parts _ (Shelf.TabOk.below HT.out HB.out) HPA.out).mono ?_); rintro e w9 ⟨v9, rfl, ho, hb⟩; have HOP := Aside0.mk (Kd.R_lower ho (below_size HB.out)); replace HO := Aside0.mk (Kd.R_below HO.out hb); replace HOW := Aside0.mk (Kd.R_below HOW.out hb); replace BK2 := Aside0.mk (blk_below BK2.out hb); replace BK4 := Aside0.mk (blk_below BK4.out hb); replace HB := Aside0.mk (below_step HB.out hb); replace BK7 := Aside0.mk (blk_below BK7.out hb); clear hb ho; obtain ⟨AP, cP, eP⟩ := Kd.R_slice HOP.out; subst eP))
    all_goals (have HS := Aside0.mk h; clear h)
    all_goals go_loopg [27] (m + 1) (fun kq v27 w' => ∃ (i : Nat) (lc : List Int), v27 = .int .i64 (i : Int) ∧ Aside0 (i + kq = m + 1) ∧ Aside0 (lc.length = 3) ∧ Aside0 (impl_ParsePuzzle.arr parts (m - i) i lc = some l) ∧ Aside0 (Kd.R k46 46 w' w.heap.size (fun _ => True) u out) ∧ Aside0 (Kd.R Kd.string 9 w' w.heap.size (fun _ => True) (.slice (some ad) words.length cW) words) ∧ Aside0 (Kd.R Kd.string 9 w' w.heap.size (fun _ => True) (.slice AP parts.length cP) parts) ∧ Aside0 (w'.heap[gb2]? = some (.cells #[.slice none 0 0] 26 (0, 0))) ∧ Aside0 (w'.heap[gb4]? = some (.cells #[u] 26 (0, 0))) ∧ Aside0 (w'.heap[gb7]? = some (.cells (lc.map (Value.int .i64)).toArray 63 (0, 0))) ∧ Aside0 (Below w.heap.size w w'))
    all_goals try (exact ⟨0, [0, 0, 0], rfl, ⟨by omega⟩, ⟨rfl⟩, HAR, HO, HOW, HOP, BK2, BK4, BK7, HB⟩)
    all_goals (
     clear HAR HO HOW HOP BK2 BK4 BK7 HB
     obtain ⟨i, lc, rfl, HI, HLC, HAI, HO, HOW, HOP, BK2, BK4, BK7, HB⟩ := hrel
     by_cases c : i < m
     · have hmp : m ≤ parts.length := by rw [HM.out]; omega
       have hm3 : m ≤ 3 := by rw [HM.out]; omega
       have c1 : decide ((i : Int) < (parts.length : Int)) = true := decide_eq_true (by omega)
       have c2 : decide (i < parts.length) = true := decide_eq_true (by omega)
       have c3 : decide ((i : Int) < 3) = true := decide_eq_true (by omega)
       have h := HAI.out
       rw [show m - i = (m - (i + 1)) + 1 by omega] at h
       unfold impl_ParsePuzzle.arr at h
       obtain ⟨P, hP⟩ : ∃ P, P = rdOf ByteArray.empty parts (i : Int) := ⟨_, rfl⟩
       rw [← hP] at h
       obtain ⟨⟨v, ok⟩, hnum, h⟩ := Option.bind_eq_some_iff.mp h
       obtain ⟨ap, e2, hx⟩ := Kd.at_string (Kd.R_reads' HOP.out).2.2 (i : Int) (by omega) (by omega)
       cases e2
       rw [← hP] at hx
       simp only [Int.toNat_natCast] at hx
       have p1 : (0 ≤ (i : Int)) = True := eq_true (by omega)
       have q1 : ((i : Int) < (parts.length : Int)) = True := eq_true (by omega)
       have q2 : ((i : Int) < 3) = True := eq_true (by omega)
       have q3 : (i < 3) = True := eq_true (by omega)
       have HIL := Aside0.mk (by have := HLC.out; omega : i < lc.length)
       have HNUM := Aside0.mk hnum
       have HAJ := Aside0.mk (show impl_ParsePuzzle.arr parts (m - (i + 1)) (i + 1) (lc.set i v) = some l from h)
       have HC2 := Aside0.mk (show i < m ∧ m ≤ 3 from ⟨c, hm3⟩)
       clear HAI h hnum hP c hmp hm3
       go_wp2_with (first | (go_at_call 54; (with_reducible refine (impl_number.calls P 20 v ok _ (Shelf.TabOk.below HT.out HB.out) HNUM.out).mono ?_); rintro e w10 ⟨rfl, hb⟩; replace HO := Aside0.mk (Kd.R_below HO.out hb); replace HOW := Aside0.mk (Kd.R_below HOW.out hb); replace HOP := Aside0.mk (Kd.R_below HOP.out hb); replace BK2 := Aside0.mk (blk_below BK2.out hb); replace BK4 := Aside0.mk (blk_below BK4.out hb); replace BK7 := Aside0.mk (blk_below BK7.out hb); replace HB := Aside0.mk (below_step HB.out hb); clear hb; have hczi : w10.cell? ⟨gb7, i, none⟩ = some (.int .i64 (lc.getD i 0)) := (blk_cell BK7.out i).trans (impl_ParsePuzzle.len_ lc i HIL.out); have hfzi := blk_frozen BK7.out i))
       go_roundg (m - i)
       case measure => have := HI.out; have := HC2.out.1; omega
       case rel => exact ⟨i + 1, lc.set i v, impl_ParsePuzzle.succ_ i (by have := HC2.out; omega), ⟨by have := HC2.out.1; omega⟩, ⟨by rw [List.length_set]; exact HLC.out⟩, HAJ, ⟨Kd.R_mono (Kd.R_far (p := ⟨gb7, i, none⟩) (Kd.R_types HO.out BK7.out (by decide)) (fun _ hk => hk.2) _) (fun _ hk => trivial)⟩, ⟨Kd.R_mono (Kd.R_far (p := ⟨gb7, i, none⟩) (Kd.R_types HOW.out BK7.out (by decide)) (fun _ hk => hk.2) _) (fun _ hk => trivial)⟩, ⟨Kd.R_mono (Kd.R_far (p := ⟨gb7, i, none⟩) (Kd.R_types HOP.out BK7.out (by decide)) (fun _ hk => hk.2) _) (fun _ hk => trivial)⟩, ⟨blk_far BK2.out NB2_7.out _⟩, ⟨blk_far BK4.out NB4_7.out _⟩, ⟨by rw [← impl_ParsePuzzle.set_]; exact blk_put BK7.out i _ rfl⟩, ⟨below_set HB.out GE7.out⟩⟩
     first | (have c2 : decide ((i : Int) < (parts.length : Int)) = false := decide_eq_false (by have := HM.out; have := HS.out; omega); have c4 : decide (i < parts.length) = false := decide_eq_false (by have := HM.out; have := HS.out; omega)) | (have c3 : decide ((i : Int) < 3) = false := decide_eq_false (by have := HM.out; have := HS.out; omega); have c4 : decide (i < 3) = false := decide_eq_false (by have := HM.out; have := HS.out; omega))
     have hr : lc = l := by
      have h := HAI.out
      rw [show m - i = 0 by omega] at h
      exact Option.some.inj h
     subst hr
     obtain ⟨x0, x1, x2, rfl⟩ : ∃ x0 x1 x2, lc = [x0, x1, x2] := by
      have := HLC.out
      match lc, this with
      | [a, b, c], _ => exact ⟨a, b, c, rfl⟩
     have HA3 := Aside0.mk (show impl_ParsePuzzle.go words (words.length - (n + 1)) (n + 1) (out ++ [(⟨x0, x1, x2⟩ : S46)]) = some L from HA2.out)
     have hcz0 : wr.cell? ⟨gb7, 0, none⟩ = some (.int .i64 x0) := (blk_cell BK7.out 0).trans rfl
     have hcz1 : wr.cell? ⟨gb7, 1, none⟩ = some (.int .i64 x1) := (blk_cell BK7.out 1).trans rfl
     have hcz2 : wr.cell? ⟨gb7, 2, none⟩ = some (.int .i64 x2) := (blk_cell BK7.out 2).trans rfl
     have hcz4 : wr.cell? ⟨gb4, 0, none⟩ = some u := (blk_cell BK4.out 0).trans rfl
     clear HAI HA2 c hmn hmx
     go_wp2_with (first | ((with_reducible refine gate_builtin (b := .append) (xs := #[.tmp 42, .tmp 50]) rfl ?_); at_builtin; refine Kd.R_append k46 (w0 := w) w.heap.size rfl (.tmp 42) (.tmp 50) 24 46 (.agg #[(.int .i64 0), (.int .i64 0), (.int .i64 0)]) 24 rfl Tryz.underlying24 info46 rfl (by decide) (by omega) u out (⟨x0, x1, x2⟩ : S46) [.int .i64 x0, .int .i64 x1, .int .i64 x2] (fun _ => True) (fun _ => False) rfl rfl ?aP (fun _ hk => hk.elim) ?aF ?aO ?aB ?aS ?aL ?_; (case aP => exact k46_mkM _ _ _ (⟨x0, x1, x2⟩ : S46)); (case aF => exact fun _ _ => trivial); (case aO => exact HO.out); (case aB => exact HB.out); (case aS => exact HB.out.size); (case aL => have := HL.out; have := HC.out; have := HWL.out; omega); intro v1 w11 ho hb hg hat; obtain ⟨Av, cv, rfl⟩ := Kd.R_slice ho; have e_ : (out ++ [(⟨x0, x1, x2⟩ : S46)]).length = out.length + 1 := (by simp); rw [e_] at ho ⊢; clear e_; have HO3 := Aside0.mk ho; have n1_ := Aside0.mk (Kd.R_over HOW.out HO.out (by decide) hg); have n2_ := Aside0.mk (blk_grown BK2.out hg (Kd.R_ne HO.out BK2.out (by decide))); have n3_ := Aside0.mk (blk_grown BK4.out hg (Kd.R_ne HO.out BK4.out (by decide))); have n4_ := Aside0.mk hb; clear HO HOW BK2 BK4 HB ho hb hg hat hcz0 hcz1 hcz2 hcz4; have HO := HO3; have HOW := n1_; have BK2 := n2_; have BK4 := n3_; have HB := n4_; clear HO3 n1_ n2_ n3_ n4_; have hcz4 : w11.cell? ⟨gb4, 0, none⟩ = some u := (blk_cell BK4.out 0).trans rfl; have hfz4 := blk_frozen BK4.out 0))
     go_roundg (words.length - n)
     case measure => have := HN.out; have := HC.out; omega
     case rel => exact ⟨n + 1, out ++ [(⟨x0, x1, x2⟩ : S46)], _, impl_ParsePuzzle.succ_ n (by have := HC.out; have := HWL.out; omega), ⟨by have := HC.out; omega⟩, ⟨by rw [List.length_append]; have := HL.out; simp; omega⟩, HA3, ⟨Kd.R_mono (Kd.R_far (p := ⟨gb4, 0, none⟩) (Kd.R_types HO.out BK4.out (by decide)) (fun _ hk => hk.2) _) (fun _ hk => trivial)⟩, ⟨Kd.R_mono (Kd.R_far (p := ⟨gb4, 0, none⟩) (Kd.R_types HOW.out BK4.out (by decide)) (fun _ hk => hk.2) _) (fun _ hk => trivial)⟩, ⟨blk_far BK2.out NB2_4.out _⟩, ⟨blk_put BK4.out 0 _ rfl⟩, ⟨below_set HB.out GE4.out⟩⟩)
  have c1 : decide ((n : Int) < (words.length : Int)) = false := decide_eq_false (by omega)
  have c2 : decide (n < words.length) = false := decide_eq_false c
  have hr : out = L := by
   have h := HA.out
   rw [show words.length - n = 0 by omega] at h
   exact Option.some.inj h
  subst hr
  have h := HEND.out
  obtain ⟨b, hb0, h⟩ := Option.bind_eq_some_iff.mp h
  have HIP := Aside0.mk hb0
  obtain ⟨Ao, co, eo⟩ := Kd.R_slice HO.out
  subst eo
  have hcz4 : wr.cell? ⟨gb4, 0, none⟩ = some (.slice Ao out.length co) := (blk_cell BK4.out 0).trans rfl
  clear hb0 c HA HEND
  cases b with
  | false =>
   rw [if_neg (by decide)] at h
   simp only [Option.some.injEq, Prod.mk.injEq] at h
   obtain ⟨rfl, rfl⟩ := h
   go_wp2_with (first | (go_at_call 26; (with_reducible refine (impl_IsPuzzle.calls k Ao co out false _ (Kd.R_reads' HO.out).2.2 (Kd.R_reads' HO.out).2.1 HIP.out).mono ?_); rintro e w8 ⟨rfl, hb⟩; replace HO := Aside0.mk (Kd.R_below HO.out hb); replace BK2 := Aside0.mk (blk_below BK2.out hb); replace BK4 := Aside0.mk (blk_below BK4.out hb); replace HB := Aside0.mk (below_step HB.out hb); clear hb hcz4; have hcz4 : w8.cell? ⟨gb4, 0, none⟩ = some (.slice Ao out.length co) := (blk_cell BK4.out 0).trans rfl; have hcz2 : w8.cell? ⟨gb2, 0, none⟩ = some (.slice none 0 0) := (blk_cell BK2.out 0).trans rfl; have hfz2 := blk_frozen BK2.out 0))
   refine bodyPost_ret (results_ct rfl _ _ gb2 26 #[.slice none 0 0] (0, 0) _ rfl z17_5_ Tryz.underlying26 rfl (by kernel_rfl)) rfl ?_
   exact ⟨_, zs19_8, Kd.R_nil _ _ _ _ _, zs19_9⟩
  | true =>
   rw [if_pos rfl] at h
   obtain ⟨t, ht, h⟩ := Option.bind_eq_some_iff.mp h
   have HPT := Aside0.mk ht
   clear ht
   by_cases q : t.toList = a0.toList
   · rw [if_pos q] at h
     simp only [Option.some.injEq, Prod.mk.injEq] at h
     obtain ⟨rfl, rfl⟩ := h
     have q2 : (t.toList == a0.toList) = true := beq_iff_eq.mpr q
     have q3 : (t.toList != a0.toList) = false := bne_eq_false_iff_eq.mpr q
     clear q
     go_wp2_with (first | (go_at_call 26; (with_reducible refine (impl_IsPuzzle.calls k Ao co out true _ (Kd.R_reads' HO.out).2.2 (Kd.R_reads' HO.out).2.1 HIP.out).mono ?_); rintro e w8 ⟨rfl, hb⟩; replace HO := Aside0.mk (Kd.R_below HO.out hb); replace BK2 := Aside0.mk (blk_below BK2.out hb); replace BK4 := Aside0.mk (blk_below BK4.out hb); replace HB := Aside0.mk (below_step HB.out hb); clear hb hcz4; have hcz4 : w8.cell? ⟨gb4, 0, none⟩ = some (.slice Ao out.length co) := (blk_cell BK4.out 0).trans rfl; have hcz2 : w8.cell? ⟨gb2, 0, none⟩ = some (.slice none 0 0) := (blk_cell BK2.out 0).trans rfl; have hfz2 := blk_frozen BK2.out 0) | (go_at_call 44; (with_reducible refine (impl_puzzleText.calls k Ao co out t _ (Kd.R_reads' HO.out).2.2 (Kd.R_reads' HO.out).2.1 HPT.out).mono ?_); rintro e w9 ⟨rfl, hb⟩; replace HO := Aside0.mk (Kd.R_below HO.out hb); replace BK2 := Aside0.mk (blk_below BK2.out hb); replace BK4 := Aside0.mk (blk_below BK4.out hb); replace HB := Aside0.mk (below_step HB.out hb); clear hb hcz2 hcz4 hfz2; have hcz4 : w9.cell? ⟨gb4, 0, none⟩ = some (.slice Ao out.length co) := (blk_cell BK4.out 0).trans rfl; have hcz2 : w9.cell? ⟨gb2, 0, none⟩ = some (.slice none 0 0) := (blk_cell BK2.out 0).trans rfl; have hfz2 := blk_frozen BK2.out 0))
     refine bodyPost_ret (results_ct rfl _ _ gb2 26 #[.slice Ao out.length co] (0, 0) _ rfl z17_5_ Tryz.underlying26 rfl (by kernel_rfl)) rfl ?_
     exact ⟨_, zs19_8, Kd.R_mono (Kd.R_far (p := ⟨gb2, 0, none⟩) (Kd.R_types HO.out BK2.out (by decide)) (fun _ hk => hk.2) _) (fun _ hk => trivial), below_set HB.out GE2.out⟩
   rw [if_neg q] at h
   simp only [Option.some.injEq, Prod.mk.injEq] at h
   obtain ⟨rfl, rfl⟩ := h
   have q2 : (t.toList == a0.toList) = false := beq_eq_false_iff_ne.mpr q
   have q3 : (t.toList != a0.toList) = true := bne_iff_ne.mpr q
   clear q
   go_wp2_with (first | (go_at_call 26; (with_reducible refine (impl_IsPuzzle.calls k Ao co out true _ (Kd.R_reads' HO.out).2.2 (Kd.R_reads' HO.out).2.1 HIP.out).mono ?_); rintro e w8 ⟨rfl, hb⟩; replace HO := Aside0.mk (Kd.R_below HO.out hb); replace BK2 := Aside0.mk (blk_below BK2.out hb); replace BK4 := Aside0.mk (blk_below BK4.out hb); replace HB := Aside0.mk (below_step HB.out hb); clear hb hcz4; have hcz4 : w8.cell? ⟨gb4, 0, none⟩ = some (.slice Ao out.length co) := (blk_cell BK4.out 0).trans rfl; have hcz2 : w8.cell? ⟨gb2, 0, none⟩ = some (.slice none 0 0) := (blk_cell BK2.out 0).trans rfl; have hfz2 := blk_frozen BK2.out 0) | (go_at_call 44; (with_reducible refine (impl_puzzleText.calls k Ao co out t _ (Kd.R_reads' HO.out).2.2 (Kd.R_reads' HO.out).2.1 HPT.out).mono ?_); rintro e w9 ⟨rfl, hb⟩; replace HO := Aside0.mk (Kd.R_below HO.out hb); replace BK2 := Aside0.mk (blk_below BK2.out hb); replace BK4 := Aside0.mk (blk_below BK4.out hb); replace HB := Aside0.mk (below_step HB.out hb); clear hb hcz2 hcz4 hfz2; have hcz4 : w9.cell? ⟨gb4, 0, none⟩ = some (.slice Ao out.length co) := (blk_cell BK4.out 0).trans rfl; have hcz2 : w9.cell? ⟨gb2, 0, none⟩ = some (.slice none 0 0) := (blk_cell BK2.out 0).trans rfl; have hfz2 := blk_frozen BK2.out 0))
   refine bodyPost_ret (results_ct rfl _ _ gb2 26 #[.slice none 0 0] (0, 0) _ rfl z17_5_ Tryz.underlying26 rfl (by kernel_rfl)) rfl ?_
   exact ⟨_, zs19_8, Kd.R_nil _ _ _ _ _, zs19_9⟩

/-! ### laws_iPuzzle: function 34 -/
def laws_iPuzzle.l0 : Nat → Int → Int → List (S46) → List (S46) → Option (Bool)
 | 0, _, _, _, _ => none
 | k + 1, x15, x16, x465000, x466000 => if x16 < x15 then (if 0 ≤ x16 then (if x16 < (x465000.length : Int) then (if x16 < (x466000.length : Int) then (if (!(((rd_T46 x465000 x16).f0) == ((rd_T46 x466000 x16).f0)) || (!(((rd_T46 x465000 x16).f1) == ((rd_T46 x466000 x16).f1)) || (!(((rd_T46 x465000 x16).f2) == ((rd_T46 x466000 x16).f2))))) = true then (some false) else (laws_iPuzzle.l0 k x15 (wrap64 (x16 + 1)) x465000 x466000)) else (none)) else (none)) else (none)) else (some true)
def laws_iPuzzle.f (k : Nat) (l0_0 : List (S46)) (l1_0 : List (S46)) : Option (Bool) := if (l0_0.length : Int) = (l1_0.length : Int) then (laws_iPuzzle.l0 k (l0_0.length : Int) 0 l0_0 l1_0) else (some false)
theorem laws_iPuzzle.mono_l : ∀ k, (∀ y0 y1 y2 y3, LeO (laws_iPuzzle.l0 k y0 y1 y2 y3) (laws_iPuzzle.l0 (k + 1) y0 y1 y2 y3))
 | 0 => fun _ _ _ _ r h => by simp [laws_iPuzzle.l0] at h
 | k + 1 => by
  have ih0 := laws_iPuzzle.mono_l k
  intro y0 y1 y2 y3
  unfold laws_iPuzzle.l0
  have m1_ := @ih0
  exact zM_
theorem laws_iPuzzle.mono : ∀ a0 a1 k, LeO (laws_iPuzzle.f k a0 a1) (laws_iPuzzle.f (k + 1) a0 a1) := by
 intro a0 a1 k
 have ih0 := laws_iPuzzle.mono_l k
 unfold laws_iPuzzle.f
 have m1_ := @ih0
 exact zM_
set_option maxHeartbeats 8000000 in
theorem laws_iPuzzle.calls (k : Nat) (A0_0 : Option Addr) (c0_0 : Nat) (l0_0 : List (S46)) (A1_0 : Option Addr) (c1_0 : Nat) (l1_0 : List (S46)) (r : Bool) (w : World) (hr0_0 : Kd.C k46 w A0_0 l0_0.length l0_0) (hc0_0 : l0_0.length ≤ c0_0) (hr1_0 : Kd.C k46 w A1_0 l1_0.length l1_0) (hc1_0 : l1_0.length ≤ c1_0) (h : laws_iPuzzle.f k l0_0 l1_0 = some r) :
 Calls Tryz.prog 34 #[.agg #[.slice A0_0 l0_0.length c0_0], .agg #[.slice A1_0 l1_0.length c1_0]] w fun e w' => e = .returned (.bool r) ∧ Below w.heap.size w w' := by
 have hu26 := Tryz.underlying26
 have hu46 := Tryz.underlying46
 have HR0_0 := Aside0.mk hr0_0
 have HC0_0 := Aside0.mk hc0_0
 clear hr0_0 hc0_0
 have HR1_0 := Aside0.mk hr1_0
 have HC1_0 := Aside0.mk hc1_0
 clear hr1_0 hc1_0
 have HB := Aside0.mk (Below.refl w.heap.size w)
 unfold laws_iPuzzle.f at h
 have H := h
 clear h
 by_cases c3 : (l0_0.length : Int) = (l1_0.length : Int)
 · obtain ⟨H, c3b0, c3b1⟩ := ep_ c3 H
   have c3b2 : (l0_0.length == l1_0.length) = true := by first | simpa using c3 | (simp at c3 ⊢; omega)
   clear c3
   have H' := Aside0.mk H
   clear H
   go_enter Tryz.func34, Tryz.ntmps34
   go_wp2_with (first | (refine bx_ 2 #[.slice A0_0 l0_0.length c0_0] 26 ?_; intro gb464 hg w4 hbox hb; have BK464 := Aside0.mk (hbox); have GW464 : Aside0 (w.heap.size ≤ gb464) := bs_ hg zB_; have GE464 := GW464; replace HB := Aside0.mk (below_step zB_ hb); clear hb hbox hg) | (refine bx_ 3 #[.slice A1_0 l1_0.length c1_0] 26 ?_; intro gb465 hg w5 hbox hb; have BK465 := Aside0.mk (hbox); have GW465 : Aside0 (w.heap.size ≤ gb465) := bs_ hg z17_1_; have GE465 := GW465; replace HB := Aside0.mk (below_step z17_1_ hb); have NB464_465 := nl_ BK464 z17_3_ hg; have NB465_464 := ns_ NB464_465; replace BK464 := bb_ BK464 z17_3_ hb; clear hb hbox hg; have hnb6 := NB464_465.out; have hnc6 := NB465_464.out; have hcz7_0 : w5.cell? ⟨gb464, 0, none⟩ = some (.slice A0_0 l0_0.length c0_0) := (blk_cell BK464.out 0).trans rfl; have hfz7_0 := blk_frozen BK464.out 0; have hcz8_0 : w5.cell? ⟨gb465, 0, none⟩ = some (.slice A1_0 l1_0.length c1_0) := (blk_cell BK465.out 0).trans rfl; have hfz8_0 := blk_frozen BK465.out 0))
   repeat (go_quiet (fail); try go_wp2_with (first | (refine bx_ 2 #[.slice A0_0 l0_0.length c0_0] 26 ?_; intro gb464 hg w4 hbox hb; have BK464 := Aside0.mk (hbox); have GW464 : Aside0 (w.heap.size ≤ gb464) := bs_ hg zB_; have GE464 := GW464; replace HB := Aside0.mk (below_step zB_ hb); clear hb hbox hg) | (refine bx_ 3 #[.slice A1_0 l1_0.length c1_0] 26 ?_; intro gb465 hg w5 hbox hb; have BK465 := Aside0.mk (hbox); have GW465 : Aside0 (w.heap.size ≤ gb465) := bs_ hg z17_1_; have GE465 := GW465; replace HB := Aside0.mk (below_step z17_1_ hb); have NB464_465 := nl_ BK464 z17_3_ hg; have NB465_464 := ns_ NB464_465; replace BK464 := bb_ BK464 z17_3_ hb; clear hb hbox hg; have hnb6 := NB464_465.out; have hnc6 := NB465_464.out; have hcz7_0 : w5.cell? ⟨gb464, 0, none⟩ = some (.slice A0_0 l0_0.length c0_0) := (blk_cell BK464.out 0).trans rfl; have hfz7_0 := blk_frozen BK464.out 0; have hcz8_0 : w5.cell? ⟨gb465, 0, none⟩ = some (.slice A1_0 l1_0.length c1_0) := (blk_cell BK465.out 0).trans rfl; have hfz8_0 := blk_frozen BK465.out 0)))
   go_loopg [16] k (fun kq v16 w' => ∃ (x16_1 : Int), v16 = .int .i64 x16_1 ∧ Aside0 (laws_iPuzzle.l0 kq (l0_0.length : Int) x16_1 l0_0 l1_0 = some r) ∧ Aside0 (kq ≤ k) ∧ Aside0 (w'.heap[gb464]? = some (.cells #[(.slice A0_0 l0_0.length c0_0)] 26 (0, 0))) ∧ Aside0 (w'.heap[gb465]? = some (.cells #[(.slice A1_0 l1_0.length c1_0)] 26 (0, 0))) ∧ Aside0 (Below w.heap.size w w'))
   case atStart => exact ⟨(0), zV_, H', ⟨Nat.le_refl _⟩, ⟨b_ BK464.out⟩, ⟨b_ BK465.out⟩, ⟨zs19_10⟩⟩
   case round =>
    clear H'
    obtain ⟨x16_1, rfl, HA, HK1, BK464, BK465, HB⟩ := hrel
    cases gk with
    | zero => exact absurd HA.out (by simp [laws_iPuzzle.l0])
    | succ k1 =>
     have H := HA.out
     clear HA
     simp only [laws_iPuzzle.l0] at H
     by_cases c9 : x16_1 < (l0_0.length : Int)
     rotate_left
     · rw [if_neg c9] at H
       have c9b0 := decide_eq_false c9
       clear c9
       obtain rfl := Option.some.inj H
       go_wp2
       repeat (go_quiet (fail); try go_wp2)
       go_ret
       exact ⟨zR_, zs19_10⟩
     rw [if_pos c9] at H
     have c9b0 := decide_eq_true c9
     clear c9
     replace H := gd_ H; obtain ⟨c10, H⟩ := H
     have c10b0 : decide (0 ≤ x16_1) = true := decide_eq_true c10
     clear c10
     replace H := gd_ H; obtain ⟨c11, H⟩ := H
     have c11b0 : decide (x16_1 < (l0_0.length : Int)) = true := decide_eq_true c11
     clear c11
     replace H := gd_ H; obtain ⟨c12, H⟩ := H
     have c12b0 : decide (x16_1 < (l1_0.length : Int)) = true := decide_eq_true c12
     clear c12
     by_cases c13 : (!(((rd_T46 l0_0 x16_1).f0) == ((rd_T46 l1_0 x16_1).f0)) || (!(((rd_T46 l0_0 x16_1).f1) == ((rd_T46 l1_0 x16_1).f1)) || (!(((rd_T46 l0_0 x16_1).f2) == ((rd_T46 l1_0 x16_1).f2))))) = true
     · rw [if_pos c13] at H
       have c13b0 : (!(((rd_T46 l0_0 x16_1).f0) == ((rd_T46 l1_0 x16_1).f0)) || (!(((rd_T46 l0_0 x16_1).f1) == ((rd_T46 l1_0 x16_1).f1)) || (!(((rd_T46 l0_0 x16_1).f2) == ((rd_T46 l1_0 x16_1).f2))))) = true := c13
       clear c13
       obtain rfl := Option.some.inj H
       have hnb14 := NB464_465.out
       have hnc14 := NB465_464.out
       have hcz15_0 : wr.cell? ⟨gb464, 0, none⟩ = some (.slice A0_0 l0_0.length c0_0) := (blk_cell BK464.out 0).trans rfl
       have hfz15_0 := blk_frozen BK464.out 0
       have p466 : 0 ≤ (x16_1 : Int) := of_decide_eq_true zS_
       have q466 : x16_1 < (l0_0.length : Int) := of_decide_eq_true zS_
       obtain ⟨ad466, e466, hx466_0, hx466_1, hx466_2⟩ := at_T46 HR0_0.out x16_1 p466 q466
       cases e466
       replace hx466_0 := (HB.out.cell (World.block_lt_of_cell? w _ hx466_0)).trans hx466_0
       replace hx466_1 := (HB.out.cell (World.block_lt_of_cell? w _ hx466_1)).trans hx466_1
       replace hx466_2 := (HB.out.cell (World.block_lt_of_cell? w _ hx466_2)).trans hx466_2
       replace p466 := eq_true p466
       replace q466 := eq_true q466
       have hcz16_0 : wr.cell? ⟨gb465, 0, none⟩ = some (.slice A1_0 l1_0.length c1_0) := (blk_cell BK465.out 0).trans rfl
       have hfz16_0 := blk_frozen BK465.out 0
       have p467 : 0 ≤ (x16_1 : Int) := of_decide_eq_true zS_
       have q467 : x16_1 < (l1_0.length : Int) := of_decide_eq_true zS_
       obtain ⟨ad467, e467, hx467_0, hx467_1, hx467_2⟩ := at_T46 HR1_0.out x16_1 p467 q467
       cases e467
       replace hx467_0 := (HB.out.cell (World.block_lt_of_cell? w _ hx467_0)).trans hx467_0
       replace hx467_1 := (HB.out.cell (World.block_lt_of_cell? w _ hx467_1)).trans hx467_1
       replace hx467_2 := (HB.out.cell (World.block_lt_of_cell? w _ hx467_2)).trans hx467_2
       replace p467 := eq_true p467
       replace q467 := eq_true q467
       go_wp2
       repeat (go_quiet (fail); try go_wp2)
       go_ret
       exact ⟨zR_, zs19_10⟩
     rw [if_neg c13] at H
     have c13b0 : (!(((rd_T46 l0_0 x16_1).f0) == ((rd_T46 l1_0 x16_1).f0)) || (!(((rd_T46 l0_0 x16_1).f1) == ((rd_T46 l1_0 x16_1).f1)) || (!(((rd_T46 l0_0 x16_1).f2) == ((rd_T46 l1_0 x16_1).f2))))) = false := by simpa using c13
     clear c13
     have H' := Aside0.mk H
     clear H
     have hnb17 := NB464_465.out
     have hnc17 := NB465_464.out
     have hcz18_0 : wr.cell? ⟨gb464, 0, none⟩ = some (.slice A0_0 l0_0.length c0_0) := (blk_cell BK464.out 0).trans rfl
     have hfz18_0 := blk_frozen BK464.out 0
     have p466 : 0 ≤ (x16_1 : Int) := of_decide_eq_true zS_
     have q466 : x16_1 < (l0_0.length : Int) := of_decide_eq_true zS_
     obtain ⟨ad466, e466, hx466_0, hx466_1, hx466_2⟩ := at_T46 HR0_0.out x16_1 p466 q466
     cases e466
     replace hx466_0 := (HB.out.cell (World.block_lt_of_cell? w _ hx466_0)).trans hx466_0
     replace hx466_1 := (HB.out.cell (World.block_lt_of_cell? w _ hx466_1)).trans hx466_1
     replace hx466_2 := (HB.out.cell (World.block_lt_of_cell? w _ hx466_2)).trans hx466_2
     replace p466 := eq_true p466
     replace q466 := eq_true q466
     have hcz19_0 : wr.cell? ⟨gb465, 0, none⟩ = some (.slice A1_0 l1_0.length c1_0) := (blk_cell BK465.out 0).trans rfl
     have hfz19_0 := blk_frozen BK465.out 0
     have p467 : 0 ≤ (x16_1 : Int) := of_decide_eq_true zS_
     have q467 : x16_1 < (l1_0.length : Int) := of_decide_eq_true zS_
     obtain ⟨ad467, e467, hx467_0, hx467_1, hx467_2⟩ := at_T46 HR1_0.out x16_1 p467 q467
     cases e467
     replace hx467_0 := (HB.out.cell (World.block_lt_of_cell? w _ hx467_0)).trans hx467_0
     replace hx467_1 := (HB.out.cell (World.block_lt_of_cell? w _ hx467_1)).trans hx467_1
     replace hx467_2 := (HB.out.cell (World.block_lt_of_cell? w _ hx467_2)).trans hx467_2
     replace p467 := eq_true p467
     replace q467 := eq_true q467
     go_wp2
     repeat (go_quiet (fail); try go_wp2)
     go_roundg k1
     case measure => have := HK1.out; omega
     case rel => exact ⟨(wrap64 (x16_1 + 1)), zV_, H', ⟨zs19_2⟩, ⟨b_ BK464.out⟩, ⟨b_ BK465.out⟩, ⟨zs19_10⟩⟩
 obtain ⟨H, c3b0, c3b1⟩ := en_ c3 H
 have c3b2 : (l0_0.length == l1_0.length) = false := by first | simpa using c3 | (simp at c3 ⊢; omega)
 obtain rfl := Option.some.inj H
 go_enter Tryz.func34, Tryz.ntmps34
 go_wp2_with (first | (refine bx_ 2 #[.slice A0_0 l0_0.length c0_0] 26 ?_; intro gb464 hg w20 hbox hb; have BK464 := Aside0.mk (hbox); have GW464 : Aside0 (w.heap.size ≤ gb464) := bs_ hg zB_; have GE464 := GW464; replace HB := Aside0.mk (below_step zB_ hb); clear hb hbox hg) | (refine bx_ 3 #[.slice A1_0 l1_0.length c1_0] 26 ?_; intro gb465 hg w21 hbox hb; have BK465 := Aside0.mk (hbox); have GW465 : Aside0 (w.heap.size ≤ gb465) := bs_ hg z17_1_; have GE465 := GW465; replace HB := Aside0.mk (below_step z17_1_ hb); have NB464_465 := nl_ BK464 z17_3_ hg; have NB465_464 := ns_ NB464_465; replace BK464 := bb_ BK464 z17_3_ hb; clear hb hbox hg; have hnb22 := NB464_465.out; have hnc22 := NB465_464.out; have hcz23_0 : w21.cell? ⟨gb464, 0, none⟩ = some (.slice A0_0 l0_0.length c0_0) := (blk_cell BK464.out 0).trans rfl; have hfz23_0 := blk_frozen BK464.out 0; have hcz24_0 : w21.cell? ⟨gb465, 0, none⟩ = some (.slice A1_0 l1_0.length c1_0) := (blk_cell BK465.out 0).trans rfl; have hfz24_0 := blk_frozen BK465.out 0))
 repeat (go_quiet (fail); try go_wp2_with (first | (refine bx_ 2 #[.slice A0_0 l0_0.length c0_0] 26 ?_; intro gb464 hg w20 hbox hb; have BK464 := Aside0.mk (hbox); have GW464 : Aside0 (w.heap.size ≤ gb464) := bs_ hg zB_; have GE464 := GW464; replace HB := Aside0.mk (below_step zB_ hb); clear hb hbox hg) | (refine bx_ 3 #[.slice A1_0 l1_0.length c1_0] 26 ?_; intro gb465 hg w21 hbox hb; have BK465 := Aside0.mk (hbox); have GW465 : Aside0 (w.heap.size ≤ gb465) := bs_ hg z17_1_; have GE465 := GW465; replace HB := Aside0.mk (below_step z17_1_ hb); have NB464_465 := nl_ BK464 z17_3_ hg; have NB465_464 := ns_ NB464_465; replace BK464 := bb_ BK464 z17_3_ hb; clear hb hbox hg; have hnb22 := NB464_465.out; have hnc22 := NB465_464.out; have hcz23_0 : w21.cell? ⟨gb464, 0, none⟩ = some (.slice A0_0 l0_0.length c0_0) := (blk_cell BK464.out 0).trans rfl; have hfz23_0 := blk_frozen BK464.out 0; have hcz24_0 : w21.cell? ⟨gb465, 0, none⟩ = some (.slice A1_0 l1_0.length c1_0) := (blk_cell BK465.out 0).trans rfl; have hfz24_0 := blk_frozen BK465.out 0)))
 go_ret
 exact ⟨zR_, zs19_10⟩

/-! ### spec_l1Cur_spoilt: function 57 -/
mutual
def spec_l1Cur_spoilt.l0 : Nat → ByteArray → ByteArray → Int → List Int → Int → Int → Option (ByteArray × Int × Int)
 | 0, _, _, _, _, _, _ => none
 | k + 1, x1, x2, x7, x1000, x1001, x1002 => if x7 > 0 then (spec_l1Cur_spoilt.j1 k x1 x2 x7 (decide ((x1.size : Int) > 0)) x1000 x1001 x1002) else (spec_l1Cur_spoilt.j1 k x1 x2 x7 false x1000 x1001 x1002)
def spec_l1Cur_spoilt.j1 : Nat → ByteArray → ByteArray → Int → Bool → List Int → Int → Int → Option (ByteArray × Int × Int)
 | 0, _, _, _, _, _, _, _ => none
 | k + 1, x1, x2, x7, x19, x1000, x1001, x1002 => if x19 = true then ((spec_l1Cur_pick.f x1000 x1001 x1002 (x1.size : Int)).bind fun bt471 => ((spec_l1Cur_pick.f x1000 bt471.2.1 bt471.2.2 (x2.size : Int)).bind fun bt474 => (if 0 ≤ bt474.1 then (if bt474.1 < (x2.size : Int) then ((some (([bt x2 bt474.1] : List Int) : List Int)).bind fun y477 => ((spec_l1Cur_pick.f x1000 bt474.2.1 bt474.2.2 3).bind fun bt480 => (if bt480.1 = 0 then (if 0 ≤ bt471.1 then (if bt471.1 ≤ (x1.size : Int) then (if (x1.extract 0 (bt471.1 : Int).toNat).size + (strOfNums y477).size ≤ 9223372036854775807 then (if ((x1.extract 0 (bt471.1 : Int).toNat) ++ (strOfNums y477)).size + (x1.extract (bt471.1 : Int).toNat x1.size).size ≤ 9223372036854775807 then (spec_l1Cur_spoilt.l0 k (((x1.extract 0 (bt471.1 : Int).toNat) ++ (strOfNums y477)) ++ (x1.extract (bt471.1 : Int).toNat x1.size)) x2 (wrap64 (x7 - 1)) x1000 bt480.2.1 bt480.2.2) else (none)) else (none)) else (none)) else (none)) else (if bt480.1 = 1 then (if 0 ≤ bt471.1 then (if bt471.1 ≤ (x1.size : Int) then (if (x1.extract 0 (bt471.1 : Int).toNat).size + (strOfNums y477).size ≤ 9223372036854775807 then (if 0 ≤ (wrap64 (bt471.1 + 1)) then (if (wrap64 (bt471.1 + 1)) ≤ (x1.size : Int) then (if ((x1.extract 0 (bt471.1 : Int).toNat) ++ (strOfNums y477)).size + (x1.extract ((wrap64 (bt471.1 + 1)) : Int).toNat x1.size).size ≤ 9223372036854775807 then (spec_l1Cur_spoilt.l0 k (((x1.extract 0 (bt471.1 : Int).toNat) ++ (strOfNums y477)) ++ (x1.extract ((wrap64 (bt471.1 + 1)) : Int).toNat x1.size)) x2 (wrap64 (x7 - 1)) x1000 bt480.2.1 bt480.2.2) else (none)) else (none)) else (none)) else (none)) else (none)) else (none)) else (if 0 ≤ bt471.1 then (if bt471.1 ≤ (x1.size : Int) then (if 0 ≤ (wrap64 (bt471.1 + 1)) then (if (wrap64 (bt471.1 + 1)) ≤ (x1.size : Int) then (if (x1.extract 0 (bt471.1 : Int).toNat).size + (x1.extract ((wrap64 (bt471.1 + 1)) : Int).toNat x1.size).size ≤ 9223372036854775807 then (spec_l1Cur_spoilt.l0 k ((x1.extract 0 (bt471.1 : Int).toNat) ++ (x1.extract ((wrap64 (bt471.1 + 1)) : Int).toNat x1.size)) x2 (wrap64 (x7 - 1)) x1000 bt480.2.1 bt480.2.2) else (none)) else (none)) else (none)) else (none)) else (none)))))) else (none)) else (none)))) else (some (x1, x1001, x1002))
end
def spec_l1Cur_spoilt.f (k : Nat) (s0_0 : List Int) (s0_1 : Int) (s0_2 : Int) (a1 : ByteArray) (a2 : ByteArray) : Option (ByteArray × Int × Int) := (spec_l1Cur_pick.f s0_0 s0_1 s0_2 2).bind fun bt468 => (spec_l1Cur_spoilt.l0 k a1 a2 (wrap64 (1 + bt468.1)) s0_0 bt468.2.1 bt468.2.2)
theorem spec_l1Cur_spoilt.mono_l : ∀ k, (∀ y0 y1 y2 y3 y4 y5, LeO (spec_l1Cur_spoilt.l0 k y0 y1 y2 y3 y4 y5) (spec_l1Cur_spoilt.l0 (k + 1) y0 y1 y2 y3 y4 y5)) ∧ (∀ y0 y1 y2 y3 y4 y5 y6, LeO (spec_l1Cur_spoilt.j1 k y0 y1 y2 y3 y4 y5 y6) (spec_l1Cur_spoilt.j1 (k + 1) y0 y1 y2 y3 y4 y5 y6))
 | 0 => ⟨fun _ _ _ _ _ _ r h => by simp [spec_l1Cur_spoilt.l0] at h, fun _ _ _ _ _ _ _ r h => by simp [spec_l1Cur_spoilt.j1] at h⟩
 | k + 1 => by
  obtain ⟨ih0, ih1⟩ := spec_l1Cur_spoilt.mono_l k
  refine ⟨?_, ?_⟩
  · intro y0 y1 y2 y3 y4 y5
    unfold spec_l1Cur_spoilt.l0
    have m1_ := @ih0
    have m2_ := @ih1
    exact zM_
  intro y0 y1 y2 y3 y4 y5 y6
  unfold spec_l1Cur_spoilt.j1
  have m1_ := @ih0
  have m2_ := @ih1
  exact zM_
theorem spec_l1Cur_spoilt.mono : ∀ a0 a1 a2 a3 a4 k, LeO (spec_l1Cur_spoilt.f k a0 a1 a2 a3 a4) (spec_l1Cur_spoilt.f (k + 1) a0 a1 a2 a3 a4) := by
 intro a0 a1 a2 a3 a4 k
 obtain ⟨ih0, ih1⟩ := spec_l1Cur_spoilt.mono_l k
 unfold spec_l1Cur_spoilt.f
 have m1_ := @ih0
 have m2_ := @ih1
 exact zM_
set_option maxHeartbeats 8000000 in
theorem spec_l1Cur_spoilt.calls (k : Nat) (g : Nat) (s0_0 : List Int) (s0_1 : Int) (s0_2 : Int) (a1 : ByteArray) (a2 : ByteArray) (r1 : ByteArray) (r2 : Int) (r3 : Int) (w0 w : World) (hI : IsS68 w0 w g s0_0 s0_1 s0_2) (hB : Below w0.heap.size w0 w) (h : spec_l1Cur_spoilt.f k s0_0 s0_1 s0_2 a1 a2 = some (r1, r2, r3)) :
 Calls Tryz.prog 57 #[.pointer (some ⟨g, 0, none⟩), .string a1, .string a2] w fun e w' => e = .returned (.string r1) ∧ IsS68 w0 w' g s0_0 r2 r3 ∧ Below w0.heap.size w0 w' ∧ KeepBut w w' g none := by
 have HI0 := Aside0.mk hI
 have HK := Aside0.mk (KeepBut.refl w g none)
 have HL := Aside0.mk hB.size
 clear hI
 have HW0 := Aside0.mk hB.size
 have HB := Aside0.mk hB
 clear hB
 unfold spec_l1Cur_spoilt.f at h
 have H := h
 clear h
 replace H := bd_ H; obtain ⟨⟨t468, t469, t470⟩, A4, H⟩ := H
 dsimp only at H
 have H' := Aside0.mk H
 clear H
 go_enter Tryz.func57, Tryz.ntmps57
 go_wp2_with (first | (go_at_call 76; (with_reducible refine (spec_l1Cur_pick.calls g s0_0 s0_1 s0_2 2 t468 t469 t470 w0 _ ?side1 ?side2 A4.out).mono ?_); (case side1 => exact zc19_6_); (case side2 => exact zc19_4_); rintro e w5 ⟨rfl, hi, hb, hk⟩; replace HK := Aside0.mk (KeepBut.trans z17_0_ hk (.inl rfl)); replace HB := Aside0.mk (hb); replace HI0 := Aside0.mk (hi)))
 repeat (go_quiet (fail); try go_wp2_with (first | (go_at_call 76; (with_reducible refine (spec_l1Cur_pick.calls g s0_0 s0_1 s0_2 2 t468 t469 t470 w0 _ ?side1 ?side2 A4.out).mono ?_); (case side1 => exact zc19_6_); (case side2 => exact zc19_4_); rintro e w5 ⟨rfl, hi, hb, hk⟩; replace HK := Aside0.mk (KeepBut.trans z17_0_ hk (.inl rfl)); replace HB := Aside0.mk (hb); replace HI0 := Aside0.mk (hi))))
 go_loopg [1, 7] k (fun kq v1 v7 w' => ∃ (x1_1 : ByteArray) (x7_1 : Int) (x1001_1 : Int) (x1002_1 : Int), v1 = .string x1_1 ∧ v7 = .int .i64 x7_1 ∧ Aside0 (spec_l1Cur_spoilt.l0 kq x1_1 a2 x7_1 s0_0 x1001_1 x1002_1 = some (r1, r2, r3)) ∧ Aside0 (kq ≤ k) ∧ Aside0 (IsS68 w0 w' g s0_0 x1001_1 x1002_1) ∧ Aside0 (KeepBut w w' g none) ∧ Aside0 (Below w0.heap.size w0 w'))
 case atStart => exact ⟨(a1), (wrap64 (1 + t468)), (t469), (t470), zV_, zV_, H', ⟨Nat.le_refl _⟩, ⟨zs19_11⟩, ⟨zs19_12⟩, ⟨zs19_13⟩⟩
 case round =>
  clear H'
  obtain ⟨x1_1, x7_1, x1001_1, x1002_1, rfl, rfl, HA, HK1, HI0, HK, HB⟩ := hrel
  cases gk with
  | zero => exact absurd HA.out (by simp [spec_l1Cur_spoilt.l0])
  | succ k1 =>
   have H := HA.out
   clear HA
   simp only [spec_l1Cur_spoilt.l0] at H
   have HC6 := Aside0.mk H
   clear H
   go_upto_region 2 with (fail)
   repeat (go_quiet (fail); go_upto_region 2 with (fail))
   go_cut [19] (fun v19 wc => ∃ (kq : Nat) (x19_5 : Bool), v19 = .bool x19_5 ∧ Aside0 (spec_l1Cur_spoilt.j1 kq x1_1 a2 x7_1 x19_5 s0_0 x1001_1 x1002_1 = some (r1, r2, r3)) ∧ Aside0 (kq ≤ k1) ∧ Aside0 (IsS68 w0 wc g s0_0 x1001_1 x1002_1) ∧ Aside0 (KeepBut w wc g none) ∧ Aside0 (Below w0.heap.size w0 wc))
   case first =>
    have H := HC6.out
    clear HC6
    by_cases c7 : x7_1 > 0
    · rw [if_pos c7] at H
      have c7b0 : decide (0 < x7_1) = true := decide_eq_true c7
      clear c7
      (first | rw [c7b0] | (simp only [i64_w, i32_w]; rw [c7b0]) | skip)
      have H' := Aside0.mk H
      clear H
      go_wp2
      repeat (go_quiet (fail); try go_wp2)
      go_meet
      case rel => exact ⟨_, (decide ((x1_1.size : Int) > 0)), zV_, H', ⟨zs19_14⟩, ⟨zs19_11⟩, ⟨zs19_12⟩, ⟨zs19_13⟩⟩
    rw [if_neg c7] at H
    have c7b0 : decide (0 < x7_1) = false := decide_eq_false c7
    clear c7
    (first | rw [c7b0] | (simp only [i64_w, i32_w]; rw [c7b0]) | skip)
    have H' := Aside0.mk H
    clear H
    go_wp2
    repeat (go_quiet (fail); try go_wp2)
    go_meet
    case rel => exact ⟨_, (false), zV_, H', ⟨zs19_14⟩, ⟨zs19_11⟩, ⟨zs19_12⟩, ⟨zs19_13⟩⟩
   case rest =>
    clear HC6
    obtain ⟨kq, x19_5, rfl, HA, HJ5, HI0, HK, HB⟩ := hcut
    cases kq with
    | zero => exact absurd HA.out (by simp [spec_l1Cur_spoilt.j1])
    | succ kj5 =>
     have H := HA.out
     clear HA
     simp only [spec_l1Cur_spoilt.j1] at H
     by_cases c8 : x19_5 = true
     rotate_left
     · replace H := bf_ c8 H; obtain ⟨rfl, H⟩ := H
       simp only [Option.some.injEq, Prod.mk.injEq] at H
       obtain ⟨rfl, rfl, rfl⟩ := H
       go_wp2
       repeat (go_quiet (fail); try go_wp2)
       go_ret
       exact ⟨zR_, zs19_11, zs19_13, zs19_12⟩
     subst c8
     rw [if_pos rfl] at H
     replace H := bd_ H; obtain ⟨⟨t471, t472, t473⟩, A9, H⟩ := H
     dsimp only at H
     replace H := bd_ H; obtain ⟨⟨t474, t475, t476⟩, A10, H⟩ := H
     dsimp only at H
     replace H := gd_ H; obtain ⟨c11, H⟩ := H
     have c11b0 : decide (0 ≤ t474) = true := decide_eq_true c11
     clear c11
     replace H := gd_ H; obtain ⟨c12, H⟩ := H
     have c12b0 : decide (t474 < (a2.size : Int)) = true := decide_eq_true c12
     clear c12
     obtain ⟨y477, hy477⟩ : ∃ y_ : List Int, y_ = (([bt a2 t474] : List Int)) := ⟨_, rfl⟩
     replace H : ((spec_l1Cur_pick.f s0_0 t475 t476 3).bind fun bt480 => (if bt480.1 = 0 then (if 0 ≤ t471 then (if t471 ≤ (x1_1.size : Int) then (if (x1_1.extract 0 (t471 : Int).toNat).size + (strOfNums y477).size ≤ 9223372036854775807 then (if ((x1_1.extract 0 (t471 : Int).toNat) ++ (strOfNums y477)).size + (x1_1.extract (t471 : Int).toNat x1_1.size).size ≤ 9223372036854775807 then (spec_l1Cur_spoilt.l0 kj5 (((x1_1.extract 0 (t471 : Int).toNat) ++ (strOfNums y477)) ++ (x1_1.extract (t471 : Int).toNat x1_1.size)) a2 (wrap64 (x7_1 - 1)) s0_0 bt480.2.1 bt480.2.2) else (none)) else (none)) else (none)) else (none)) else (if bt480.1 = 1 then (if 0 ≤ t471 then (if t471 ≤ (x1_1.size : Int) then (if (x1_1.extract 0 (t471 : Int).toNat).size + (strOfNums y477).size ≤ 9223372036854775807 then (if 0 ≤ (wrap64 (t471 + 1)) then (if (wrap64 (t471 + 1)) ≤ (x1_1.size : Int) then (if ((x1_1.extract 0 (t471 : Int).toNat) ++ (strOfNums y477)).size + (x1_1.extract ((wrap64 (t471 + 1)) : Int).toNat x1_1.size).size ≤ 9223372036854775807 then (spec_l1Cur_spoilt.l0 kj5 (((x1_1.extract 0 (t471 : Int).toNat) ++ (strOfNums y477)) ++ (x1_1.extract ((wrap64 (t471 + 1)) : Int).toNat x1_1.size)) a2 (wrap64 (x7_1 - 1)) s0_0 bt480.2.1 bt480.2.2) else (none)) else (none)) else (none)) else (none)) else (none)) else (none)) else (if 0 ≤ t471 then (if t471 ≤ (x1_1.size : Int) then (if 0 ≤ (wrap64 (t471 + 1)) then (if (wrap64 (t471 + 1)) ≤ (x1_1.size : Int) then (if (x1_1.extract 0 (t471 : Int).toNat).size + (x1_1.extract ((wrap64 (t471 + 1)) : Int).toNat x1_1.size).size ≤ 9223372036854775807 then (spec_l1Cur_spoilt.l0 kj5 ((x1_1.extract 0 (t471 : Int).toNat) ++ (x1_1.extract ((wrap64 (t471 + 1)) : Int).toNat x1_1.size)) a2 (wrap64 (x7_1 - 1)) s0_0 bt480.2.1 bt480.2.2) else (none)) else (none)) else (none)) else (none)) else (none))))) = some (r1, r2, r3) := by first | (rw [hy477]; with_reducible exact H) | (have H2_ := (Option.bind_some _ _).symm.trans H; rw [hy477]; with_reducible exact H2_) | (have H2_ := (Option.bind_some _ _).symm.trans H; with_reducible exact H2_) | with_reducible exact H | (rw [hy477]; exact H) | exact H
     have Ny477 := Aside0.mk hy477
     clear hy477
     replace H := bd_ H; obtain ⟨⟨t480, t481, t482⟩, A14, H⟩ := H
     dsimp only at H
     by_cases c15 : t480 = 0
     · obtain ⟨H, c15b0, c15b1⟩ := ep_ c15 H
       clear c15
       replace H := gd_ H; obtain ⟨c16, H⟩ := H
       have c16b0 := eq_true c16
       have c16b1 : decide (0 ≤ t471) = true := decide_eq_true c16
       clear c16
       replace H := gd_ H; obtain ⟨c17, H⟩ := H
       have c17b0 := eq_true c17
       have c17b1 : decide (t471 ≤ (x1_1.size : Int)) = true := decide_eq_true c17
       clear c17
       replace H := gd_ H; obtain ⟨c18, H⟩ := H
       have c18b0 := eq_true c18
       have c18b1 : decide ((x1_1.extract 0 (t471 : Int).toNat).size + (strOfNums y477).size ≤ 9223372036854775807) = true := decide_eq_true c18
       try have c18b2 : (9223372036854775807 < (x1_1.extract 0 (t471 : Int).toNat).size + (strOfNums y477).size) = False := eq_false (Nat.not_lt.2 c18)
       try have c18b4 : (9223372036854775807 < t471.toNat + (strOfNums y477).size) = False := eq_false (Nat.not_lt.2 (by have h_ := c18; rw [ByteArray.size_extract] at h_; first | omega | (have g_ := of_eq_true (by assumption : (t471 ≤ (x1_1.size : Int)) = True); omega)))
       have c19b0 := eq_true (of_decide_eq_true zS_ : 0 ≤ t471)
       have c20b0 := eq_true (of_decide_eq_true zS_ : t471 ≤ (x1_1.size : Int))
       replace H := gd_ H; obtain ⟨c21, H⟩ := H
       have c21b0 := eq_true c21
       have c21b1 : decide (((x1_1.extract 0 (t471 : Int).toNat) ++ (strOfNums y477)).size + (x1_1.extract (t471 : Int).toNat x1_1.size).size ≤ 9223372036854775807) = true := decide_eq_true c21
       try have c21b2 : (9223372036854775807 < ((x1_1.extract 0 (t471 : Int).toNat) ++ (strOfNums y477)).size + (x1_1.extract (t471 : Int).toNat x1_1.size).size) = False := eq_false (Nat.not_lt.2 c21)
       try have c21b3 : (9223372036854775807 < (x1_1.extract 0 (t471 : Int).toNat).size + (strOfNums y477).size + (x1_1.extract (t471 : Int).toNat x1_1.size).size) = False := eq_false (Nat.not_lt.2 (by simpa only [ByteArray.size_append, lit_size_, List.size_toArray, List.length_cons, List.length_nil, Nat.zero_add, Nat.reduceAdd] using c21))
       have H' := Aside0.mk H
       clear H
       go_wp2_with (first | (go_at_call 76; (with_reducible refine (spec_l1Cur_pick.calls g s0_0 x1001_1 x1002_1 (x1_1.size : Int) t471 t472 t473 w0 _ ?side1 ?side2 A9.out).mono ?_); (case side1 => exact zc19_6_); (case side2 => exact zc19_4_); rintro e w22 ⟨rfl, hi, hb, hk⟩; replace HK := Aside0.mk (KeepBut.trans z17_0_ hk (.inl rfl)); replace HB := Aside0.mk (hb); replace HI0 := Aside0.mk (hi)) | (go_at_call 76; (with_reducible refine (spec_l1Cur_pick.calls g s0_0 t472 t473 (a2.size : Int) t474 t475 t476 w0 _ ?side1 ?side2 A10.out).mono ?_); (case side1 => exact zc19_6_); (case side2 => exact zc19_4_); rintro e w23 ⟨rfl, hi, hb, hk⟩; replace HK := Aside0.mk (KeepBut.trans z17_0_ hk (.inl rfl)); replace HB := Aside0.mk (hb); replace HI0 := Aside0.mk (hi); have p13 : 0 ≤ (t474 : Int) := of_decide_eq_true zS_; have q13 : t474 < (a2.size : Int) := of_decide_eq_true zS_; have hx13 := bt_at a2 t474; replace p13 := eq_true p13; replace q13 := eq_true q13) | ((with_reducible refine gate_dst (N := 32) rfl ?_); (try (refine gate_guard (by rfl) ?_; dsimp only)); refine Kd.R_lit (Kd.int .u8) _ 5 ?hg (N := 32) ?hd (xs := ([bt a2 t474] : List Int)) (inner := [.int .u8 (bt a2 t474)]) (ok := fun _ => True) (okp := fun _ => True) ?hr ?hp (fun _ hk => hk) trivial (Below.refl _ _) (Nat.le_refl _) (by simp) ?_; (case hd => rfl); (case hg => rfl); (case hr => exact zc19_9_); (case hp => exact zc19_8_); intro v478 w24 ho25 hb hg_ hnew_; clear hg_ hnew_; (first | rw [← Ny477.out] at ho25 | (simp only [Int.reduceToNat] at ho25; rw [← Ny477.out] at ho25)); have HO479 := Aside0.mk (Kd.R_lower ho25 (keep_size (w := w) (g := g) (row := none) z17_0_)); replace HK := Aside0.mk (KeepBut.trans z17_0_ (KeepBut.of_below hb g none) (.inl rfl)); replace HB := Aside0.mk (below_step z17_6_ hb); replace HI0 := Aside0.mk (IsS68.below z17_7_ hb); clear hb ho25; have hcv26 := own_string (P := Tryz.prog) Tryz.underlying22 Tryz.underlying5 Tryz.underlying9 (Kd.own_of_R HO479.out)) | (go_at_call 76; (with_reducible refine (spec_l1Cur_pick.calls g s0_0 t475 t476 3 t480 t481 t482 w0 _ ?side1 ?side2 A14.out).mono ?_); (case side1 => exact zc19_6_); (case side2 => exact zc19_4_); rintro e w27 ⟨rfl, hi, hb, hk⟩; replace HO479 := Aside0.mk (Kd.R_mono (Kd.R_keep (IsS68.apart (show IsS68 w0 _ g s0_0 t475 t476 from by repeat (first | (with_reducible first | exact HI0.out | apply IsS68.alloc | apply IsS68.drewN | apply IsS68.drew | apply IsS68.set_1 | apply IsS68.set_2) | exact HI0.out)) z17_8_ (by decide)) hk (fun _ h => h.2)) (fun _ h => h.1)); replace HK := Aside0.mk (KeepBut.trans z17_0_ hk (.inl rfl)); replace HB := Aside0.mk (hb); replace HI0 := Aside0.mk (hi)))
       repeat (go_quiet (fail); try go_wp2_with (first | (go_at_call 76; (with_reducible refine (spec_l1Cur_pick.calls g s0_0 x1001_1 x1002_1 (x1_1.size : Int) t471 t472 t473 w0 _ ?side1 ?side2 A9.out).mono ?_); (case side1 => exact zc19_6_); (case side2 => exact zc19_4_); rintro e w22 ⟨rfl, hi, hb, hk⟩; replace HK := Aside0.mk (KeepBut.trans z17_0_ hk (.inl rfl)); replace HB := Aside0.mk (hb); replace HI0 := Aside0.mk (hi)) | (go_at_call 76; (with_reducible refine (spec_l1Cur_pick.calls g s0_0 t472 t473 (a2.size : Int) t474 t475 t476 w0 _ ?side1 ?side2 A10.out).mono ?_); (case side1 => exact zc19_6_); (case side2 => exact zc19_4_); rintro e w23 ⟨rfl, hi, hb, hk⟩; replace HK := Aside0.mk (KeepBut.trans z17_0_ hk (.inl rfl)); replace HB := Aside0.mk (hb); replace HI0 := Aside0.mk (hi); have p13 : 0 ≤ (t474 : Int) := of_decide_eq_true zS_; have q13 : t474 < (a2.size : Int) := of_decide_eq_true zS_; have hx13 := bt_at a2 t474; replace p13 := eq_true p13; replace q13 := eq_true q13) | ((with_reducible refine gate_dst (N := 32) rfl ?_); (try (refine gate_guard (by rfl) ?_; dsimp only)); refine Kd.R_lit (Kd.int .u8) _ 5 ?hg (N := 32) ?hd (xs := ([bt a2 t474] : List Int)) (inner := [.int .u8 (bt a2 t474)]) (ok := fun _ => True) (okp := fun _ => True) ?hr ?hp (fun _ hk => hk) trivial (Below.refl _ _) (Nat.le_refl _) (by simp) ?_; (case hd => rfl); (case hg => rfl); (case hr => exact zc19_9_); (case hp => exact zc19_8_); intro v478 w24 ho25 hb hg_ hnew_; clear hg_ hnew_; (first | rw [← Ny477.out] at ho25 | (simp only [Int.reduceToNat] at ho25; rw [← Ny477.out] at ho25)); have HO479 := Aside0.mk (Kd.R_lower ho25 (keep_size (w := w) (g := g) (row := none) z17_0_)); replace HK := Aside0.mk (KeepBut.trans z17_0_ (KeepBut.of_below hb g none) (.inl rfl)); replace HB := Aside0.mk (below_step z17_6_ hb); replace HI0 := Aside0.mk (IsS68.below z17_7_ hb); clear hb ho25; have hcv26 := own_string (P := Tryz.prog) Tryz.underlying22 Tryz.underlying5 Tryz.underlying9 (Kd.own_of_R HO479.out)) | (go_at_call 76; (with_reducible refine (spec_l1Cur_pick.calls g s0_0 t475 t476 3 t480 t481 t482 w0 _ ?side1 ?side2 A14.out).mono ?_); (case side1 => exact zc19_6_); (case side2 => exact zc19_4_); rintro e w27 ⟨rfl, hi, hb, hk⟩; replace HO479 := Aside0.mk (Kd.R_mono (Kd.R_keep (IsS68.apart (show IsS68 w0 _ g s0_0 t475 t476 from by repeat (first | (with_reducible first | exact HI0.out | apply IsS68.alloc | apply IsS68.drewN | apply IsS68.drew | apply IsS68.set_1 | apply IsS68.set_2) | exact HI0.out)) z17_8_ (by decide)) hk (fun _ h => h.2)) (fun _ h => h.1)); replace HK := Aside0.mk (KeepBut.trans z17_0_ hk (.inl rfl)); replace HB := Aside0.mk (hb); replace HI0 := Aside0.mk (hi))))
       go_roundg kj5
       case measure => have := HK1.out; have := HJ5.out; omega
       case rel => exact ⟨(((x1_1.extract 0 (t471 : Int).toNat) ++ (strOfNums y477)) ++ (x1_1.extract (t471 : Int).toNat x1_1.size)), (wrap64 (x7_1 - 1)), (t481), (t482), zV_, zV_, H', ⟨zs19_15⟩, ⟨zs19_11⟩, ⟨zs19_12⟩, ⟨zs19_13⟩⟩
     obtain ⟨H, c15b0, c15b1⟩ := en_ c15 H
     by_cases c28 : t480 = 1
     · obtain ⟨H, c28b0, c28b1⟩ := ep_ c28 H
       clear c28
       replace H := gd_ H; obtain ⟨c29, H⟩ := H
       have c29b0 := eq_true c29
       have c29b1 : decide (0 ≤ t471) = true := decide_eq_true c29
       clear c29
       replace H := gd_ H; obtain ⟨c30, H⟩ := H
       have c30b0 := eq_true c30
       have c30b1 : decide (t471 ≤ (x1_1.size : Int)) = true := decide_eq_true c30
       clear c30
       replace H := gd_ H; obtain ⟨c31, H⟩ := H
       have c31b0 := eq_true c31
       have c31b1 : decide ((x1_1.extract 0 (t471 : Int).toNat).size + (strOfNums y477).size ≤ 9223372036854775807) = true := decide_eq_true c31
       try have c31b2 : (9223372036854775807 < (x1_1.extract 0 (t471 : Int).toNat).size + (strOfNums y477).size) = False := eq_false (Nat.not_lt.2 c31)
       try have c31b4 : (9223372036854775807 < t471.toNat + (strOfNums y477).size) = False := eq_false (Nat.not_lt.2 (by have h_ := c31; rw [ByteArray.size_extract] at h_; first | omega | (have g_ := of_eq_true (by assumption : (t471 ≤ (x1_1.size : Int)) = True); omega)))
       obtain ⟨ji32, hji32⟩ : ∃ j_ : Int, (wrap64 (t471 + 1)) = j_ := ⟨_, rfl⟩
       replace H : (if 0 ≤ (ji32) then (if (ji32) ≤ (x1_1.size : Int) then (if ((x1_1.extract 0 (t471 : Int).toNat) ++ (strOfNums y477)).size + (x1_1.extract ((ji32) : Int).toNat x1_1.size).size ≤ 9223372036854775807 then (spec_l1Cur_spoilt.l0 kj5 (((x1_1.extract 0 (t471 : Int).toNat) ++ (strOfNums y477)) ++ (x1_1.extract ((ji32) : Int).toNat x1_1.size)) a2 (wrap64 (x7_1 - 1)) s0_0 t481 t482) else (none)) else (none)) else (none)) = some (r1, r2, r3) := by first | (rw [hji32] at H; exact H) | (simp only [hji32] at H ⊢; exact H)
       (try rw [hji32] at A9)
       (try rw [hji32] at A10)
       (try rw [hji32] at A14)
       have hji32w : (IntKind.i64.wrap (t471 + 1)) = ji32 := (i64_w _).trans hji32
       replace H := gd_ H; obtain ⟨c33, H⟩ := H
       have c33b0 := eq_true c33
       have c33b1 : decide (0 ≤ (ji32)) = true := decide_eq_true c33
       clear c33
       replace H := gd_ H; obtain ⟨c34, H⟩ := H
       have c34b0 := eq_true c34
       have c34b1 : decide ((ji32) ≤ (x1_1.size : Int)) = true := decide_eq_true c34
       clear c34
       replace H := gd_ H; obtain ⟨c35, H⟩ := H
       have c35b0 := eq_true c35
       have c35b1 : decide (((x1_1.extract 0 (t471 : Int).toNat) ++ (strOfNums y477)).size + (x1_1.extract ((ji32) : Int).toNat x1_1.size).size ≤ 9223372036854775807) = true := decide_eq_true c35
       try have c35b2 : (9223372036854775807 < ((x1_1.extract 0 (t471 : Int).toNat) ++ (strOfNums y477)).size + (x1_1.extract ((ji32) : Int).toNat x1_1.size).size) = False := eq_false (Nat.not_lt.2 c35)
       try have c35b3 : (9223372036854775807 < (x1_1.extract 0 (t471 : Int).toNat).size + (strOfNums y477).size + (x1_1.extract ((ji32) : Int).toNat x1_1.size).size) = False := eq_false (Nat.not_lt.2 (by simpa only [ByteArray.size_append, lit_size_, List.size_toArray, List.length_cons, List.length_nil, Nat.zero_add, Nat.reduceAdd] using c35))
       have H' := Aside0.mk H
       clear H
       go_wp2_with (first | (go_at_call 76; (with_reducible refine (spec_l1Cur_pick.calls g s0_0 x1001_1 x1002_1 (x1_1.size : Int) t471 t472 t473 w0 _ ?side1 ?side2 A9.out).mono ?_); (case side1 => exact zc19_6_); (case side2 => exact zc19_4_); rintro e w36 ⟨rfl, hi, hb, hk⟩; replace HK := Aside0.mk (KeepBut.trans z17_0_ hk (.inl rfl)); replace HB := Aside0.mk (hb); replace HI0 := Aside0.mk (hi)) | (go_at_call 76; (with_reducible refine (spec_l1Cur_pick.calls g s0_0 t472 t473 (a2.size : Int) t474 t475 t476 w0 _ ?side1 ?side2 A10.out).mono ?_); (case side1 => exact zc19_6_); (case side2 => exact zc19_4_); rintro e w37 ⟨rfl, hi, hb, hk⟩; replace HK := Aside0.mk (KeepBut.trans z17_0_ hk (.inl rfl)); replace HB := Aside0.mk (hb); replace HI0 := Aside0.mk (hi); have p13 : 0 ≤ (t474 : Int) := of_decide_eq_true zS_; have q13 : t474 < (a2.size : Int) := of_decide_eq_true zS_; have hx13 := bt_at a2 t474; replace p13 := eq_true p13; replace q13 := eq_true q13) | ((with_reducible refine gate_dst (N := 32) rfl ?_); (try (refine gate_guard (by rfl) ?_; dsimp only)); refine Kd.R_lit (Kd.int .u8) _ 5 ?hg (N := 32) ?hd (xs := ([bt a2 t474] : List Int)) (inner := [.int .u8 (bt a2 t474)]) (ok := fun _ => True) (okp := fun _ => True) ?hr ?hp (fun _ hk => hk) trivial (Below.refl _ _) (Nat.le_refl _) (by simp) ?_; (case hd => rfl); (case hg => rfl); (case hr => exact zc19_9_); (case hp => exact zc19_8_); intro v478 w38 ho39 hb hg_ hnew_; clear hg_ hnew_; (first | rw [← Ny477.out] at ho39 | (simp only [Int.reduceToNat] at ho39; rw [← Ny477.out] at ho39)); have HO479 := Aside0.mk (Kd.R_lower ho39 (keep_size (w := w) (g := g) (row := none) z17_0_)); replace HK := Aside0.mk (KeepBut.trans z17_0_ (KeepBut.of_below hb g none) (.inl rfl)); replace HB := Aside0.mk (below_step z17_6_ hb); replace HI0 := Aside0.mk (IsS68.below z17_7_ hb); clear hb ho39; have hcv40 := own_string (P := Tryz.prog) Tryz.underlying22 Tryz.underlying5 Tryz.underlying9 (Kd.own_of_R HO479.out)) | (go_at_call 76; (with_reducible refine (spec_l1Cur_pick.calls g s0_0 t475 t476 3 t480 t481 t482 w0 _ ?side1 ?side2 A14.out).mono ?_); (case side1 => exact zc19_6_); (case side2 => exact zc19_4_); rintro e w41 ⟨rfl, hi, hb, hk⟩; replace HO479 := Aside0.mk (Kd.R_mono (Kd.R_keep (IsS68.apart (show IsS68 w0 _ g s0_0 t475 t476 from by repeat (first | (with_reducible first | exact HI0.out | apply IsS68.alloc | apply IsS68.drewN | apply IsS68.drew | apply IsS68.set_1 | apply IsS68.set_2) | exact HI0.out)) z17_8_ (by decide)) hk (fun _ h => h.2)) (fun _ h => h.1)); replace HK := Aside0.mk (KeepBut.trans z17_0_ hk (.inl rfl)); replace HB := Aside0.mk (hb); replace HI0 := Aside0.mk (hi)))
       repeat (go_quiet (fail); try go_wp2_with (first | (go_at_call 76; (with_reducible refine (spec_l1Cur_pick.calls g s0_0 x1001_1 x1002_1 (x1_1.size : Int) t471 t472 t473 w0 _ ?side1 ?side2 A9.out).mono ?_); (case side1 => exact zc19_6_); (case side2 => exact zc19_4_); rintro e w36 ⟨rfl, hi, hb, hk⟩; replace HK := Aside0.mk (KeepBut.trans z17_0_ hk (.inl rfl)); replace HB := Aside0.mk (hb); replace HI0 := Aside0.mk (hi)) | (go_at_call 76; (with_reducible refine (spec_l1Cur_pick.calls g s0_0 t472 t473 (a2.size : Int) t474 t475 t476 w0 _ ?side1 ?side2 A10.out).mono ?_); (case side1 => exact zc19_6_); (case side2 => exact zc19_4_); rintro e w37 ⟨rfl, hi, hb, hk⟩; replace HK := Aside0.mk (KeepBut.trans z17_0_ hk (.inl rfl)); replace HB := Aside0.mk (hb); replace HI0 := Aside0.mk (hi); have p13 : 0 ≤ (t474 : Int) := of_decide_eq_true zS_; have q13 : t474 < (a2.size : Int) := of_decide_eq_true zS_; have hx13 := bt_at a2 t474; replace p13 := eq_true p13; replace q13 := eq_true q13) | ((with_reducible refine gate_dst (N := 32) rfl ?_); (try (refine gate_guard (by rfl) ?_; dsimp only)); refine Kd.R_lit (Kd.int .u8) _ 5 ?hg (N := 32) ?hd (xs := ([bt a2 t474] : List Int)) (inner := [.int .u8 (bt a2 t474)]) (ok := fun _ => True) (okp := fun _ => True) ?hr ?hp (fun _ hk => hk) trivial (Below.refl _ _) (Nat.le_refl _) (by simp) ?_; (case hd => rfl); (case hg => rfl); (case hr => exact zc19_9_); (case hp => exact zc19_8_); intro v478 w38 ho39 hb hg_ hnew_; clear hg_ hnew_; (first | rw [← Ny477.out] at ho39 | (simp only [Int.reduceToNat] at ho39; rw [← Ny477.out] at ho39)); have HO479 := Aside0.mk (Kd.R_lower ho39 (keep_size (w := w) (g := g) (row := none) z17_0_)); replace HK := Aside0.mk (KeepBut.trans z17_0_ (KeepBut.of_below hb g none) (.inl rfl)); replace HB := Aside0.mk (below_step z17_6_ hb); replace HI0 := Aside0.mk (IsS68.below z17_7_ hb); clear hb ho39; have hcv40 := own_string (P := Tryz.prog) Tryz.underlying22 Tryz.underlying5 Tryz.underlying9 (Kd.own_of_R HO479.out)) | (go_at_call 76; (with_reducible refine (spec_l1Cur_pick.calls g s0_0 t475 t476 3 t480 t481 t482 w0 _ ?side1 ?side2 A14.out).mono ?_); (case side1 => exact zc19_6_); (case side2 => exact zc19_4_); rintro e w41 ⟨rfl, hi, hb, hk⟩; replace HO479 := Aside0.mk (Kd.R_mono (Kd.R_keep (IsS68.apart (show IsS68 w0 _ g s0_0 t475 t476 from by repeat (first | (with_reducible first | exact HI0.out | apply IsS68.alloc | apply IsS68.drewN | apply IsS68.drew | apply IsS68.set_1 | apply IsS68.set_2) | exact HI0.out)) z17_8_ (by decide)) hk (fun _ h => h.2)) (fun _ h => h.1)); replace HK := Aside0.mk (KeepBut.trans z17_0_ hk (.inl rfl)); replace HB := Aside0.mk (hb); replace HI0 := Aside0.mk (hi))))
       go_roundg kj5
       case measure => have := HK1.out; have := HJ5.out; omega
       case rel => exact ⟨(((x1_1.extract 0 (t471 : Int).toNat) ++ (strOfNums y477)) ++ (x1_1.extract ((ji32) : Int).toNat x1_1.size)), (wrap64 (x7_1 - 1)), (t481), (t482), (by first | rfl | (simp; done) | (simp only [← hji32] <;> (first | rfl | simp)) | (simp [*]; done)), zV_, H', ⟨zs19_15⟩, ⟨zs19_11⟩, ⟨zs19_12⟩, ⟨zs19_13⟩⟩
     obtain ⟨H, c28b0, c28b1⟩ := en_ c28 H
     replace H := gd_ H; obtain ⟨c42, H⟩ := H
     have c42b0 := eq_true c42
     have c42b1 : decide (0 ≤ t471) = true := decide_eq_true c42
     clear c42
     replace H := gd_ H; obtain ⟨c43, H⟩ := H
     have c43b0 := eq_true c43
     have c43b1 : decide (t471 ≤ (x1_1.size : Int)) = true := decide_eq_true c43
     clear c43
     obtain ⟨ji44, hji44⟩ : ∃ j_ : Int, (wrap64 (t471 + 1)) = j_ := ⟨_, rfl⟩
     replace H : (if 0 ≤ (ji44) then (if (ji44) ≤ (x1_1.size : Int) then (if (x1_1.extract 0 (t471 : Int).toNat).size + (x1_1.extract ((ji44) : Int).toNat x1_1.size).size ≤ 9223372036854775807 then (spec_l1Cur_spoilt.l0 kj5 ((x1_1.extract 0 (t471 : Int).toNat) ++ (x1_1.extract ((ji44) : Int).toNat x1_1.size)) a2 (wrap64 (x7_1 - 1)) s0_0 t481 t482) else (none)) else (none)) else (none)) = some (r1, r2, r3) := by first | (rw [hji44] at H; exact H) | (simp only [hji44] at H ⊢; exact H)
     (try rw [hji44] at A9)
     (try rw [hji44] at A10)
     (try rw [hji44] at A14)
     have hji44w : (IntKind.i64.wrap (t471 + 1)) = ji44 := (i64_w _).trans hji44
     replace H := gd_ H; obtain ⟨c45, H⟩ := H
     have c45b0 := eq_true c45
     have c45b1 : decide (0 ≤ (ji44)) = true := decide_eq_true c45
     clear c45
     replace H := gd_ H; obtain ⟨c46, H⟩ := H
     have c46b0 := eq_true c46
     have c46b1 : decide ((ji44) ≤ (x1_1.size : Int)) = true := decide_eq_true c46
     clear c46
     replace H := gd_ H; obtain ⟨c47, H⟩ := H
     have c47b0 := eq_true c47
     have c47b1 : decide ((x1_1.extract 0 (t471 : Int).toNat).size + (x1_1.extract ((ji44) : Int).toNat x1_1.size).size ≤ 9223372036854775807) = true := decide_eq_true c47
     try have c47b2 : (9223372036854775807 < (x1_1.extract 0 (t471 : Int).toNat).size + (x1_1.extract ((ji44) : Int).toNat x1_1.size).size) = False := eq_false (Nat.not_lt.2 c47)
     try have c47b4 : (9223372036854775807 < t471.toNat + (x1_1.extract ((ji44) : Int).toNat x1_1.size).size) = False := eq_false (Nat.not_lt.2 (by have h_ := c47; rw [ByteArray.size_extract] at h_; first | omega | (have g_ := of_eq_true (by assumption : (t471 ≤ (x1_1.size : Int)) = True); omega)))
     have H' := Aside0.mk H
     clear H
     go_wp2_with (first | (go_at_call 76; (with_reducible refine (spec_l1Cur_pick.calls g s0_0 x1001_1 x1002_1 (x1_1.size : Int) t471 t472 t473 w0 _ ?side1 ?side2 A9.out).mono ?_); (case side1 => exact zc19_6_); (case side2 => exact zc19_4_); rintro e w48 ⟨rfl, hi, hb, hk⟩; replace HK := Aside0.mk (KeepBut.trans z17_0_ hk (.inl rfl)); replace HB := Aside0.mk (hb); replace HI0 := Aside0.mk (hi)) | (go_at_call 76; (with_reducible refine (spec_l1Cur_pick.calls g s0_0 t472 t473 (a2.size : Int) t474 t475 t476 w0 _ ?side1 ?side2 A10.out).mono ?_); (case side1 => exact zc19_6_); (case side2 => exact zc19_4_); rintro e w49 ⟨rfl, hi, hb, hk⟩; replace HK := Aside0.mk (KeepBut.trans z17_0_ hk (.inl rfl)); replace HB := Aside0.mk (hb); replace HI0 := Aside0.mk (hi); have p13 : 0 ≤ (t474 : Int) := of_decide_eq_true zS_; have q13 : t474 < (a2.size : Int) := of_decide_eq_true zS_; have hx13 := bt_at a2 t474; replace p13 := eq_true p13; replace q13 := eq_true q13) | ((with_reducible refine gate_dst (N := 32) rfl ?_); (try (refine gate_guard (by rfl) ?_; dsimp only)); refine Kd.R_lit (Kd.int .u8) _ 5 ?hg (N := 32) ?hd (xs := ([bt a2 t474] : List Int)) (inner := [.int .u8 (bt a2 t474)]) (ok := fun _ => True) (okp := fun _ => True) ?hr ?hp (fun _ hk => hk) trivial (Below.refl _ _) (Nat.le_refl _) (by simp) ?_; (case hd => rfl); (case hg => rfl); (case hr => exact zc19_9_); (case hp => exact zc19_8_); intro v478 w50 ho51 hb hg_ hnew_; clear hg_ hnew_; (first | rw [← Ny477.out] at ho51 | (simp only [Int.reduceToNat] at ho51; rw [← Ny477.out] at ho51)); have HO479 := Aside0.mk (Kd.R_lower ho51 (keep_size (w := w) (g := g) (row := none) z17_0_)); replace HK := Aside0.mk (KeepBut.trans z17_0_ (KeepBut.of_below hb g none) (.inl rfl)); replace HB := Aside0.mk (below_step z17_6_ hb); replace HI0 := Aside0.mk (IsS68.below z17_7_ hb); clear hb ho51; have hcv52 := own_string (P := Tryz.prog) Tryz.underlying22 Tryz.underlying5 Tryz.underlying9 (Kd.own_of_R HO479.out)) | (go_at_call 76; (with_reducible refine (spec_l1Cur_pick.calls g s0_0 t475 t476 3 t480 t481 t482 w0 _ ?side1 ?side2 A14.out).mono ?_); (case side1 => exact zc19_6_); (case side2 => exact zc19_4_); rintro e w53 ⟨rfl, hi, hb, hk⟩; replace HO479 := Aside0.mk (Kd.R_mono (Kd.R_keep (IsS68.apart (show IsS68 w0 _ g s0_0 t475 t476 from by repeat (first | (with_reducible first | exact HI0.out | apply IsS68.alloc | apply IsS68.drewN | apply IsS68.drew | apply IsS68.set_1 | apply IsS68.set_2) | exact HI0.out)) z17_8_ (by decide)) hk (fun _ h => h.2)) (fun _ h => h.1)); replace HK := Aside0.mk (KeepBut.trans z17_0_ hk (.inl rfl)); replace HB := Aside0.mk (hb); replace HI0 := Aside0.mk (hi)))
     repeat (go_quiet (fail); try go_wp2_with (first | (go_at_call 76; (with_reducible refine (spec_l1Cur_pick.calls g s0_0 x1001_1 x1002_1 (x1_1.size : Int) t471 t472 t473 w0 _ ?side1 ?side2 A9.out).mono ?_); (case side1 => exact zc19_6_); (case side2 => exact zc19_4_); rintro e w48 ⟨rfl, hi, hb, hk⟩; replace HK := Aside0.mk (KeepBut.trans z17_0_ hk (.inl rfl)); replace HB := Aside0.mk (hb); replace HI0 := Aside0.mk (hi)) | (go_at_call 76; (with_reducible refine (spec_l1Cur_pick.calls g s0_0 t472 t473 (a2.size : Int) t474 t475 t476 w0 _ ?side1 ?side2 A10.out).mono ?_); (case side1 => exact zc19_6_); (case side2 => exact zc19_4_); rintro e w49 ⟨rfl, hi, hb, hk⟩; replace HK := Aside0.mk (KeepBut.trans z17_0_ hk (.inl rfl)); replace HB := Aside0.mk (hb); replace HI0 := Aside0.mk (hi); have p13 : 0 ≤ (t474 : Int) := of_decide_eq_true zS_; have q13 : t474 < (a2.size : Int) := of_decide_eq_true zS_; have hx13 := bt_at a2 t474; replace p13 := eq_true p13; replace q13 := eq_true q13) | ((with_reducible refine gate_dst (N := 32) rfl ?_); (try (refine gate_guard (by rfl) ?_; dsimp only)); refine Kd.R_lit (Kd.int .u8) _ 5 ?hg (N := 32) ?hd (xs := ([bt a2 t474] : List Int)) (inner := [.int .u8 (bt a2 t474)]) (ok := fun _ => True) (okp := fun _ => True) ?hr ?hp (fun _ hk => hk) trivial (Below.refl _ _) (Nat.le_refl _) (by simp) ?_; (case hd => rfl); (case hg => rfl); (case hr => exact zc19_9_); (case hp => exact zc19_8_); intro v478 w50 ho51 hb hg_ hnew_; clear hg_ hnew_; (first | rw [← Ny477.out] at ho51 | (simp only [Int.reduceToNat] at ho51; rw [← Ny477.out] at ho51)); have HO479 := Aside0.mk (Kd.R_lower ho51 (keep_size (w := w) (g := g) (row := none) z17_0_)); replace HK := Aside0.mk (KeepBut.trans z17_0_ (KeepBut.of_below hb g none) (.inl rfl)); replace HB := Aside0.mk (below_step z17_6_ hb); replace HI0 := Aside0.mk (IsS68.below z17_7_ hb); clear hb ho51; have hcv52 := own_string (P := Tryz.prog) Tryz.underlying22 Tryz.underlying5 Tryz.underlying9 (Kd.own_of_R HO479.out)) | (go_at_call 76; (with_reducible refine (spec_l1Cur_pick.calls g s0_0 t475 t476 3 t480 t481 t482 w0 _ ?side1 ?side2 A14.out).mono ?_); (case side1 => exact zc19_6_); (case side2 => exact zc19_4_); rintro e w53 ⟨rfl, hi, hb, hk⟩; replace HO479 := Aside0.mk (Kd.R_mono (Kd.R_keep (IsS68.apart (show IsS68 w0 _ g s0_0 t475 t476 from by repeat (first | (with_reducible first | exact HI0.out | apply IsS68.alloc | apply IsS68.drewN | apply IsS68.drew | apply IsS68.set_1 | apply IsS68.set_2) | exact HI0.out)) z17_8_ (by decide)) hk (fun _ h => h.2)) (fun _ h => h.1)); replace HK := Aside0.mk (KeepBut.trans z17_0_ hk (.inl rfl)); replace HB := Aside0.mk (hb); replace HI0 := Aside0.mk (hi))))
     go_roundg kj5
     case measure => have := HK1.out; have := HJ5.out; omega
     case rel => exact ⟨((x1_1.extract 0 (t471 : Int).toNat) ++ (x1_1.extract ((ji44) : Int).toNat x1_1.size)), (wrap64 (x7_1 - 1)), (t481), (t482), (by first | rfl | (simp; done) | (simp only [← hji44] <;> (first | rfl | simp)) | (simp [*]; done)), zV_, H', ⟨zs19_15⟩, ⟨zs19_11⟩, ⟨zs19_12⟩, ⟨zs19_13⟩⟩

theorem z18_0_ {p : Prop} (h : p := by (try simp only [List.map_toArray, List.map_cons, List.map_nil]); first | done | rfl | (simp only [List.length_drop, List.length_take]; rfl)) : p := h
theorem z18_3_ {p : Prop} (h : p := by repeat (first | (with_reducible first | exact HB.out | apply below_alloc | apply pw_below_drewN | apply below_drew1 | refine below_set ?_ (IsS68.ge HI483.out)) | exact HB.out)) : p := h
theorem z18_5_ {p : Prop} (h : p := by exact rr_ HO486.out) : p := h

/-! ### spec_DrawParsePuzzle: function 35 -/
def spec_DrawParsePuzzle.f (k : Nat) (l0 : List Int) : Option (ByteArray) := (spec_l1Cur_surePuzzle.f k l0 0 0 4).bind fun bt484 => ((spec_pzText.f k bt484.1).bind fun t489 => ((spec_l1Cur_one.f l0 bt484.2.1 bt484.2.2 3).bind fun bt490 => (if bt490.1 = true then ((spec_l1Cur_spoilt.f k l0 bt490.2.1 bt490.2.2 t489 (⟨#[48, 49, 50, 51, 52, 53, 54, 46, 44, 120]⟩ : ByteArray)).bind fun bt493 => (some bt493.1)) else (some t489))))
theorem spec_DrawParsePuzzle.mono : ∀ a0 k, LeO (spec_DrawParsePuzzle.f k a0) (spec_DrawParsePuzzle.f (k + 1) a0) := by
 intro a0 k
 unfold spec_DrawParsePuzzle.f
 have m1_ := @spec_l1Cur_spoilt.mono
 have m2_ := @spec_l1Cur_surePuzzle.mono
 have m3_ := @spec_pzText.mono
 exact zM_
set_option maxHeartbeats 8000000 in
theorem spec_DrawParsePuzzle.calls (k : Nat) (A0 : Option Addr) (c0 : Nat) (l0 : List Int) (r : ByteArray) (w : World) (hr0 : Kd.C (Kd.int .u8) w A0 l0.length l0) (hc0 : l0.length ≤ c0) (h : spec_DrawParsePuzzle.f k l0 = some r) :
 Calls Tryz.prog 35 #[.slice A0 l0.length c0] w fun e w' => e = .returned (.string r) ∧ Below w.heap.size w w' := by
 have hu68 := Tryz.underlying68
 have HR0 := Aside0.mk hr0
 have HC0 := Aside0.mk hc0
 clear hr0 hc0
 have HB := Aside0.mk (Below.refl w.heap.size w)
 unfold spec_DrawParsePuzzle.f at h
 have H := h
 clear h
 replace H := bd_ H; obtain ⟨⟨t484, t487, t488⟩, A2, H⟩ := H
 dsimp only at H
 replace H := bd_ H; obtain ⟨t489, A3, H⟩ := H
 replace H := bd_ H; obtain ⟨⟨t490, t491, t492⟩, A4, H⟩ := H
 dsimp only at H
 by_cases c5 : t490 = true
 · subst c5
   rw [if_pos rfl] at H
   replace H := bd_ H; obtain ⟨⟨t493, t494, t495⟩, A6, H⟩ := H
   dsimp only at H
   obtain rfl := Option.some.inj H
   go_enter Tryz.func35, Tryz.ntmps35
   go_wp2_with (first | (refine bx_ 7 #[.slice A0 l0.length c0, .int .i64 0, .int .u64 0] 68 ?_; intro gb483 hg w7 hbox hb; have HI483 := Aside0.mk ((⟨_, _, hbox, (by rw [hg]; exact (below_size zB_) : w.heap.size ≤ gb483), HR0.out⟩ : IsS68 w w7 gb483 l0 0 0)); replace HB := Aside0.mk (below_step zB_ hb); clear hb hbox hg) | ((with_reducible refine gc_ 55 rfl ?_); refine gL_ 9 Tryz.func55 #[.pointer (some ⟨gb483, 0, none⟩), .int .i64 4] ?_; (with_reducible refine (spec_l1Cur_surePuzzle.calls k gb483 l0 0 0 4 t484 t487 t488 w _ ?side1 ?side2 A2.out).mono ?_); (case side1 => exact zc19_3_); (case side2 => exact zc19_2_); rintro e w8 ⟨v485, rfl, ho0, hi, hb, hk⟩; refine ⟨_, rfl, ?_⟩; have HO486 := Aside0.mk (Kd.R_lower ho0 (below_size z18_3_)); replace HB := Aside0.mk (hb); replace HI483 := Aside0.mk (hi); obtain ⟨Ao9, co9, eo9⟩ := Kd.R_slice HO486.out; subst eo9) | ((with_reducible refine gc_ 45 rfl ?_); refine gL_ 10 Tryz.func45 #[.agg #[.slice Ao9 t484.length co9]] ?_; (with_reducible refine (spec_pzText.calls k _ _ t484 t489 _ ?side1 ?side2 A3.out).mono ?_); (case side1 => exact zc19_5_); (case side2 => exact (Kd.R_reads' HO486.out).2.1); rintro e w10 ⟨rfl, hb⟩; refine ⟨_, rfl, ?_⟩; replace HO486 := Aside0.mk (Kd.R_below z18_5_ hb); replace HB := Aside0.mk (below_step z18_3_ hb); replace HI483 := Aside0.mk (IsS68.below zq19_0_ hb)) | ((with_reducible refine gc_ 56 rfl ?_); refine gL_ 12 Tryz.func56 #[.pointer (some ⟨gb483, 0, none⟩), .int .i64 3] ?_; (with_reducible refine (spec_l1Cur_one.calls gb483 l0 t487 t488 3 true t491 t492 w _ ?side1 ?side2 A4.out).mono ?_); (case side1 => exact zc19_3_); (case side2 => exact zc19_2_); rintro e w11 ⟨rfl, hi, hb, hk⟩; refine ⟨_, rfl, ?_⟩; replace HO486 := Aside0.mk (Kd.R_mono (Kd.R_keep (IsS68.apart (show IsS68 w _ gb483 l0 t487 t488 from by repeat (first | (with_reducible first | exact HI483.out | apply IsS68.alloc | apply IsS68.drewN | apply IsS68.drew | apply IsS68.set_1 | apply IsS68.set_2) | exact HI483.out)) z18_5_ (by decide)) hk (fun _ h => h.2)) (fun _ h => h.1)); replace HB := Aside0.mk (hb); replace HI483 := Aside0.mk (hi)) | ((with_reducible refine gc_ 57 rfl ?_); refine gL_ 15 Tryz.func57 #[.pointer (some ⟨gb483, 0, none⟩), .string t489, .string (⟨#[48, 49, 50, 51, 52, 53, 54, 46, 44, 120]⟩ : ByteArray)] ?_; (with_reducible refine (spec_l1Cur_spoilt.calls k gb483 l0 t491 t492 t489 (⟨#[48, 49, 50, 51, 52, 53, 54, 46, 44, 120]⟩ : ByteArray) t493 t494 t495 w _ ?side1 ?side2 A6.out).mono ?_); (case side1 => exact zc19_3_); (case side2 => exact zc19_2_); rintro e w12 ⟨rfl, hi, hb, hk⟩; refine ⟨_, rfl, ?_⟩; replace HO486 := Aside0.mk (Kd.R_mono (Kd.R_keep (IsS68.apart (show IsS68 w _ gb483 l0 t491 t492 from by repeat (first | (with_reducible first | exact HI483.out | apply IsS68.alloc | apply IsS68.drewN | apply IsS68.drew | apply IsS68.set_1 | apply IsS68.set_2) | exact HI483.out)) z18_5_ (by decide)) hk (fun _ h => h.2)) (fun _ h => h.1)); replace HB := Aside0.mk (hb); replace HI483 := Aside0.mk (hi)))
   go_ret
   exact ⟨zR_, zs19_16⟩
 replace H := bf_ c5 H; obtain ⟨rfl, H⟩ := H
 obtain rfl := Option.some.inj H
 go_enter Tryz.func35, Tryz.ntmps35
 go_wp2_with (first | (refine bx_ 7 #[.slice A0 l0.length c0, .int .i64 0, .int .u64 0] 68 ?_; intro gb483 hg w13 hbox hb; have HI483 := Aside0.mk ((⟨_, _, hbox, (by rw [hg]; exact (below_size zB_) : w.heap.size ≤ gb483), HR0.out⟩ : IsS68 w w13 gb483 l0 0 0)); replace HB := Aside0.mk (below_step zB_ hb); clear hb hbox hg) | ((with_reducible refine gc_ 55 rfl ?_); refine gL_ 9 Tryz.func55 #[.pointer (some ⟨gb483, 0, none⟩), .int .i64 4] ?_; (with_reducible refine (spec_l1Cur_surePuzzle.calls k gb483 l0 0 0 4 t484 t487 t488 w _ ?side1 ?side2 A2.out).mono ?_); (case side1 => exact zc19_3_); (case side2 => exact zc19_2_); rintro e w14 ⟨v485, rfl, ho0, hi, hb, hk⟩; refine ⟨_, rfl, ?_⟩; have HO486 := Aside0.mk (Kd.R_lower ho0 (below_size z18_3_)); replace HB := Aside0.mk (hb); replace HI483 := Aside0.mk (hi); obtain ⟨Ao15, co15, eo15⟩ := Kd.R_slice HO486.out; subst eo15) | ((with_reducible refine gc_ 45 rfl ?_); refine gL_ 10 Tryz.func45 #[.agg #[.slice Ao15 t484.length co15]] ?_; (with_reducible refine (spec_pzText.calls k _ _ t484 t489 _ ?side1 ?side2 A3.out).mono ?_); (case side1 => exact zc19_5_); (case side2 => exact (Kd.R_reads' HO486.out).2.1); rintro e w16 ⟨rfl, hb⟩; refine ⟨_, rfl, ?_⟩; replace HO486 := Aside0.mk (Kd.R_below z18_5_ hb); replace HB := Aside0.mk (below_step z18_3_ hb); replace HI483 := Aside0.mk (IsS68.below zq19_0_ hb)) | ((with_reducible refine gc_ 56 rfl ?_); refine gL_ 12 Tryz.func56 #[.pointer (some ⟨gb483, 0, none⟩), .int .i64 3] ?_; (with_reducible refine (spec_l1Cur_one.calls gb483 l0 t487 t488 3 false t491 t492 w _ ?side1 ?side2 A4.out).mono ?_); (case side1 => exact zc19_3_); (case side2 => exact zc19_2_); rintro e w17 ⟨rfl, hi, hb, hk⟩; refine ⟨_, rfl, ?_⟩; replace HO486 := Aside0.mk (Kd.R_mono (Kd.R_keep (IsS68.apart (show IsS68 w _ gb483 l0 t487 t488 from by repeat (first | (with_reducible first | exact HI483.out | apply IsS68.alloc | apply IsS68.drewN | apply IsS68.drew | apply IsS68.set_1 | apply IsS68.set_2) | exact HI483.out)) z18_5_ (by decide)) hk (fun _ h => h.2)) (fun _ h => h.1)); replace HB := Aside0.mk (hb); replace HI483 := Aside0.mk (hi)))
 go_ret
 exact ⟨zR_, zs19_16⟩

/-! ### spec_l1Split: function 77 -/
def spec_l1Split.l0 : Nat → ByteArray → Int → List ByteArray → Int → Int → Option (List ByteArray)
 | 0, _, _, _, _, _ => none
 | k + 1, x0, x1, x5, x6, x7 => if x7 < (x0.size : Int) then (if 0 ≤ x7 then (if (bt x0 x7) = x1 then (if 0 ≤ x6 then (if x6 ≤ x7 then (if x7 ≤ (x0.size : Int) then (if x5.length < 8796093022208 then (spec_l1Split.l0 k x0 x1 (x5 ++ [x0.extract (x6 : Int).toNat (x7 : Int).toNat]) (wrap64 (x7 + 1)) (wrap64 (x7 + 1))) else (none)) else (none)) else (none)) else (none)) else (spec_l1Split.l0 k x0 x1 x5 x6 (wrap64 (x7 + 1)))) else (none)) else (if 0 ≤ x6 then (if x6 ≤ (x0.size : Int) then (if x5.length < 8796093022208 then (some (x5 ++ [x0.extract (x6 : Int).toNat x0.size])) else (none)) else (none)) else (none))
def spec_l1Split.f (k : Nat) (a0 : ByteArray) (a1 : Int) : Option (List ByteArray) := spec_l1Split.l0 k a0 a1 ([] : List ByteArray) 0 0
theorem spec_l1Split.mono_l : ∀ k, (∀ y0 y1 y2 y3 y4, LeO (spec_l1Split.l0 k y0 y1 y2 y3 y4) (spec_l1Split.l0 (k + 1) y0 y1 y2 y3 y4))
 | 0 => fun _ _ _ _ _ r h => by simp [spec_l1Split.l0] at h
 | k + 1 => by
  have ih0 := spec_l1Split.mono_l k
  intro y0 y1 y2 y3 y4
  unfold spec_l1Split.l0
  have m1_ := @ih0
  exact zM_
theorem spec_l1Split.mono : ∀ a0 a1 k, LeO (spec_l1Split.f k a0 a1) (spec_l1Split.f (k + 1) a0 a1) := by
 intro a0 a1 k
 have ih0 := spec_l1Split.mono_l k
 unfold spec_l1Split.f
 have m1_ := @ih0
 exact zM_
set_option maxHeartbeats 8000000 in
theorem spec_l1Split.calls (k : Nat) (a0 : ByteArray) (a1 : Int) (r : List ByteArray) (w : World) (h : spec_l1Split.f k a0 a1 = some r) :
 Calls Tryz.prog 77 #[.string a0, .int .u8 a1] w fun e w' => ∃ v0_ : Value, e = .returned (v0_) ∧ Kd.R Kd.string 9 w' w.heap.size (fun _ => True) v0_ r ∧ Below w.heap.size w w' := by
 have HB := Aside0.mk (Below.refl w.heap.size w)
 unfold spec_l1Split.f at h
 have H := h
 clear h
 have H' := Aside0.mk H
 clear H
 go_enter Tryz.func77, Tryz.ntmps77
 go_wp2
 go_loopg [5, 6, 7] k (fun kq v5 v6 v7 w' => ∃ (x5_1 : List ByteArray) (x6_1 : Int) (x7_1 : Int), v6 = .int .i64 x6_1 ∧ v7 = .int .i64 x7_1 ∧ Aside0 (spec_l1Split.l0 kq a0 a1 x5_1 x6_1 x7_1 = some r) ∧ Aside0 (kq ≤ k) ∧ Aside0 (Kd.R Kd.string 9 w' w.heap.size (fun _ => True) v5 x5_1) ∧ Aside0 (Below w.heap.size w w'))
 case atStart => exact ⟨(([] : List ByteArray)), (0), (0), zV_, zV_, H', ⟨Nat.le_refl _⟩, ⟨zs19_6⟩, ⟨zB_⟩⟩
 case round =>
  clear H'
  try clear p2
  obtain ⟨x5_1, x6_1, x7_1, rfl, rfl, HA, HK1, HO_5, HB⟩ := hrel
  cases gk with
  | zero => exact absurd HA.out (by simp [spec_l1Split.l0])
  | succ k1 =>
   have H := HA.out
   clear HA
   simp only [spec_l1Split.l0] at H
   by_cases c3 : x7_1 < (a0.size : Int)
   · rw [if_pos c3] at H
     have c3b0 := decide_eq_true c3
     clear c3
     replace H := gd_ H; obtain ⟨c4, H⟩ := H
     have c4b0 : decide (0 ≤ x7_1) = true := decide_eq_true c4
     clear c4
     by_cases c6 : (bt a0 x7_1) = a1
     · obtain ⟨H, c6b0, c6b1⟩ := ep_ c6 H
       clear c6
       replace H := gd_ H; obtain ⟨c7, H⟩ := H
       have c7b0 := eq_true c7
       have c7b1 : decide (0 ≤ x6_1) = true := decide_eq_true c7
       clear c7
       replace H := gd_ H; obtain ⟨c8, H⟩ := H
       have c8b0 := eq_true c8
       have c8b1 : decide (x6_1 ≤ x7_1) = true := decide_eq_true c8
       clear c8
       replace H := gd_ H; obtain ⟨c9, H⟩ := H
       have c9b0 := eq_true c9
       have c9b1 : decide (x7_1 ≤ (a0.size : Int)) = true := decide_eq_true c9
       clear c9
       replace H := gd_ H; obtain ⟨c10, H⟩ := H
       have LMc10 := Aside0.mk c10
       clear c10
       obtain ⟨y496, hy496⟩ : ∃ y_ : List ByteArray, y_ = (x5_1 ++ [a0.extract (x6_1 : Int).toNat (x7_1 : Int).toNat]) := ⟨_, rfl⟩
       replace H : (spec_l1Split.l0 k1 a0 a1 y496 (wrap64 (x7_1 + 1)) (wrap64 (x7_1 + 1))) = some r := by first | (rw [hy496]; with_reducible exact H) | (have H2_ := (Option.bind_some _ _).symm.trans H; rw [hy496]; with_reducible exact H2_) | (have H2_ := (Option.bind_some _ _).symm.trans H; with_reducible exact H2_) | with_reducible exact H | (rw [hy496]; exact H) | exact H
       have Ny496 := Aside0.mk hy496
       clear hy496
       have H' := Aside0.mk H
       clear H
       have p5 : 0 ≤ (x7_1 : Int) := of_decide_eq_true zS_
       have q5 : x7_1 < (a0.size : Int) := of_decide_eq_true zS_
       have hx5 := bt_at a0 x7_1
       replace p5 := eq_true p5
       replace q5 := eq_true q5
       go_wp2_with (first | ((with_reducible refine gate_builtin (b := .append) (xs := #[.tmp 19, .tmp 24]) rfl ?_); at_builtin; refine Kd.R_append Kd.string (w0 := w) w.heap.size rfl (.tmp 19) (.tmp 24) 28 9 (.string ⟨#[]⟩) 16 rfl Tryz.underlying28 info9 rfl (by decide) (by omega) u5 x5_1 (a0.extract (x6_1 : Int).toNat (x7_1 : Int).toNat) [.string (a0.extract (x6_1 : Int).toNat (x7_1 : Int).toNat)] (fun _ => True) (fun _ => False) rfl rfl ?aP (fun _ hk => hk.elim) ?aF ?aO ?aB ?aS ?aL ?_; (case aP => exact rfl); (case aB => exact zB_); (case aF => exact (fun _ _ => trivial)); (case aO => exact zc19_7_); (case aS => exact (below_size zB_)); (case aL => have := LMc10.out; omega); intro v497 w11 ho hb hg hat; rw [← Ny496.out] at ho; replace HB := Aside0.mk (hb); have HO498 := Aside0.mk (ho); clear HO_5; clear ho hb hg hat))
       go_roundg k1
       case measure => have := HK1.out; omega
       case rel => exact ⟨(y496), (wrap64 (x7_1 + 1)), (wrap64 (x7_1 + 1)), zV_, zV_, H', ⟨zs19_2⟩, ⟨rr_ HO498.out⟩, ⟨zB_⟩⟩
     obtain ⟨H, c6b0, c6b1⟩ := en_ c6 H
     have H' := Aside0.mk H
     clear H
     have p5 : 0 ≤ (x7_1 : Int) := of_decide_eq_true zS_
     have q5 : x7_1 < (a0.size : Int) := of_decide_eq_true zS_
     have hx5 := bt_at a0 x7_1
     replace p5 := eq_true p5
     replace q5 := eq_true q5
     go_wp2
     go_roundg k1
     case measure => have := HK1.out; omega
     case rel => exact ⟨(x5_1), (x6_1), (wrap64 (x7_1 + 1)), zV_, zV_, H', ⟨zs19_2⟩, ⟨rr_ HO_5.out⟩, ⟨zB_⟩⟩
   rw [if_neg c3] at H
   have c3b0 := decide_eq_false c3
   clear c3
   replace H := gd_ H; obtain ⟨c12, H⟩ := H
   have c12b0 := eq_true c12
   have c12b1 : decide (0 ≤ x6_1) = true := decide_eq_true c12
   clear c12
   replace H := gd_ H; obtain ⟨c13, H⟩ := H
   have c13b0 := eq_true c13
   have c13b1 : decide (x6_1 ≤ (a0.size : Int)) = true := decide_eq_true c13
   clear c13
   replace H := gd_ H; obtain ⟨c14, H⟩ := H
   have LMc14 := Aside0.mk c14
   clear c14
   obtain ⟨y499, hy499⟩ : ∃ y_ : List ByteArray, y_ = (x5_1 ++ [a0.extract (x6_1 : Int).toNat a0.size]) := ⟨_, rfl⟩
   replace H : (some y499) = some r := by first | (rw [hy499]; with_reducible exact H) | (have H2_ := (Option.bind_some _ _).symm.trans H; rw [hy499]; with_reducible exact H2_) | (have H2_ := (Option.bind_some _ _).symm.trans H; with_reducible exact H2_) | with_reducible exact H | (rw [hy499]; exact H) | exact H
   have Ny499 := Aside0.mk hy499
   clear hy499
   obtain rfl := Option.some.inj H
   go_wp2_with (first | ((with_reducible refine gate_builtin (b := .append) (xs := #[.tmp 28, .tmp 32]) rfl ?_); at_builtin; refine Kd.R_append Kd.string (w0 := w) w.heap.size rfl (.tmp 28) (.tmp 32) 28 9 (.string ⟨#[]⟩) 16 rfl Tryz.underlying28 info9 rfl (by decide) (by omega) u5 x5_1 (a0.extract (x6_1 : Int).toNat a0.size) [.string (a0.extract (x6_1 : Int).toNat a0.size)] (fun _ => True) (fun _ => False) rfl rfl ?aP (fun _ hk => hk.elim) ?aF ?aO ?aB ?aS ?aL ?_; (case aP => exact rfl); (case aB => exact zB_); (case aF => exact (fun _ _ => trivial)); (case aO => exact zc19_7_); (case aS => exact (below_size zB_)); (case aL => have := LMc14.out; omega); intro v500 w15 ho hb hg hat; rw [← Ny499.out] at ho; replace HB := Aside0.mk (hb); have HO501 := Aside0.mk (ho); clear HO_5; clear ho hb hg hat))
   go_ret
   exact ⟨_, zs19_4, by exact rr_ HO501.out, zB_⟩

/-! ### spec_l1Read: function 78 -/
mutual
def spec_l1Read.j0 : Nat → ByteArray → Bool → Option (Int)
 | 0, _, _ => none
 | k + 1, x0, x18 => if x18 = true then (some (-1)) else (spec_l1Read.l0 k x0 0 0)
def spec_l1Read.l0 : Nat → ByteArray → Int → Int → Option (Int)
 | 0, _, _, _ => none
 | k + 1, x0, x3, x4 => if x4 < (x0.size : Int) then (if 0 ≤ x4 then (if (bt x0 x4) < 48 then (some (-1)) else (if (bt x0 x4) > 57 then (some (-1)) else (spec_l1Read.l0 k x0 (wrap64 ((wrap64 (10 * x3)) + (((bt x0 x4) - 48) % 256))) (wrap64 (x4 + 1))))) else (none)) else (some x3)
end
def spec_l1Read.f (k : Nat) (a0 : ByteArray) : Option (Int) := (spec_l1In.f (a0.size : Int) 1 6).bind fun t502 => (if t502 = true then (if 0 < (a0.size : Int) then (if (bt a0 0) = 48 then (spec_l1Read.j0 k a0 (decide ((a0.size : Int) > 1))) else (spec_l1Read.j0 k a0 false)) else (none)) else (spec_l1Read.j0 k a0 true))
theorem spec_l1Read.mono_l : ∀ k, (∀ y0 y1, LeO (spec_l1Read.j0 k y0 y1) (spec_l1Read.j0 (k + 1) y0 y1)) ∧ (∀ y0 y1 y2, LeO (spec_l1Read.l0 k y0 y1 y2) (spec_l1Read.l0 (k + 1) y0 y1 y2))
 | 0 => ⟨fun _ _ r h => by simp [spec_l1Read.j0] at h, fun _ _ _ r h => by simp [spec_l1Read.l0] at h⟩
 | k + 1 => by
  obtain ⟨ih0, ih1⟩ := spec_l1Read.mono_l k
  refine ⟨?_, ?_⟩
  · intro y0 y1
    unfold spec_l1Read.j0
    have m1_ := @ih0
    have m2_ := @ih1
    exact zM_
  intro y0 y1 y2
  unfold spec_l1Read.l0
  have m1_ := @ih0
  have m2_ := @ih1
  exact zM_
theorem spec_l1Read.mono : ∀ a0 k, LeO (spec_l1Read.f k a0) (spec_l1Read.f (k + 1) a0) := by
 intro a0 k
 obtain ⟨ih0, ih1⟩ := spec_l1Read.mono_l k
 unfold spec_l1Read.f
 have m1_ := @ih0
 have m2_ := @ih1
 exact zM_
set_option maxHeartbeats 8000000 in
theorem spec_l1Read.calls (k : Nat) (a0 : ByteArray) (r : Int) (w : World) (h : spec_l1Read.f k a0 = some r) :
 Calls Tryz.prog 78 #[.string a0] w fun e w' => e = .returned (.int .i64 r) ∧ Drawn0 w w' := by
 unfold spec_l1Read.f at h
 have H := h
 clear h
 have HC2 := Aside0.mk H
 clear H
 go_enter Tryz.func78, Tryz.ntmps78
 go_upto_region 1 with (fail)
 go_cut [18] (fun v18 wc => ∃ (kq : Nat) (x18_1 : Bool), v18 = .bool x18_1 ∧ Aside0 (spec_l1Read.j0 kq a0 x18_1 = some r) ∧ Aside0 (kq ≤ k) ∧ Drawn0 w wc)
 case first =>
  have H := HC2.out
  clear HC2
  replace H := bd_ H; obtain ⟨t502, A3, H⟩ := H
  by_cases c4 : t502 = true
  rotate_left
  · replace H := bf_ c4 H; obtain ⟨rfl, H⟩ := H
    have H' := Aside0.mk H
    clear H
    go_wp2_with (first | ((with_reducible refine gc_ 81 rfl ?_); refine gL_ 7 Tryz.func81 #[.int .i64 (a0.size : Int), .int .i64 1, .int .i64 6] ?_; (with_reducible refine (spec_l1In.calls (a0.size : Int) 1 6 false _ A3.out).mono ?_); rintro e w' ⟨rfl, ⟨nd, rfl⟩⟩; refine ⟨_, rfl, ?_⟩))
    go_meet
    case rel => exact ⟨_, (true), zV_, H', ⟨zs19_17⟩, zs19_1⟩
  subst c4
  rw [if_pos rfl] at H
  replace H := gd_ H; obtain ⟨c5, H⟩ := H
  have c5b0 : decide (0 < (a0.size : Int)) = true := decide_eq_true c5
  have c5b1 : decide (0 < a0.size) = true := decide_eq_true (by omega)
  clear c5
  (first | rw [c5b0] | (simp only [i64_w, i32_w]; rw [c5b0]) | skip)
  by_cases c7 : (bt a0 0) = 48
  · obtain ⟨H, c7b0, c7b1⟩ := ep_ c7 H
    clear c7
    have H' := Aside0.mk H
    clear H
    go_wp2_with (first | ((with_reducible refine gc_ 81 rfl ?_); refine gL_ 7 Tryz.func81 #[.int .i64 (a0.size : Int), .int .i64 1, .int .i64 6] ?_; (with_reducible refine (spec_l1In.calls (a0.size : Int) 1 6 true _ A3.out).mono ?_); rintro e w' ⟨rfl, ⟨nd, rfl⟩⟩; refine ⟨_, rfl, ?_⟩; have p6 : 0 ≤ (0 : Int) := (by omega); have q6 : 0 < a0.size := (by have : (0 : Int) < (a0.size : Int) := of_decide_eq_true zS_; omega); have hx6 : ∀ h : 0 < a0.size, ((a0[0]'h).toNat : Int) = bt a0 0 := bt_at a0 0; clear p6; have qi6 : (0 < (a0.size : Int)) = True := eq_true (of_decide_eq_true zS_); replace q6 := eq_true q6))
    go_meet
    case rel => exact ⟨_, (decide ((a0.size : Int) > 1)), zV_, H', ⟨zs19_17⟩, zs19_1⟩
  obtain ⟨H, c7b0, c7b1⟩ := en_ c7 H
  have H' := Aside0.mk H
  clear H
  go_wp2_with (first | ((with_reducible refine gc_ 81 rfl ?_); refine gL_ 7 Tryz.func81 #[.int .i64 (a0.size : Int), .int .i64 1, .int .i64 6] ?_; (with_reducible refine (spec_l1In.calls (a0.size : Int) 1 6 true _ A3.out).mono ?_); rintro e w' ⟨rfl, ⟨nd, rfl⟩⟩; refine ⟨_, rfl, ?_⟩; have p6 : 0 ≤ (0 : Int) := (by omega); have q6 : 0 < a0.size := (by have : (0 : Int) < (a0.size : Int) := of_decide_eq_true zS_; omega); have hx6 : ∀ h : 0 < a0.size, ((a0[0]'h).toNat : Int) = bt a0 0 := bt_at a0 0; clear p6; have qi6 : (0 < (a0.size : Int)) = True := eq_true (of_decide_eq_true zS_); replace q6 := eq_true q6))
  go_meet
  case rel => exact ⟨_, (false), zV_, H', ⟨zs19_17⟩, zs19_1⟩
 case rest =>
  clear HC2
  obtain ⟨kq, x18_1, rfl, HA, HJ1, ⟨mc1, rfl⟩⟩ := hcut
  cases kq with
  | zero => exact absurd HA.out (by simp [spec_l1Read.j0])
  | succ kj1 =>
   have H := HA.out
   clear HA
   simp only [spec_l1Read.j0] at H
   by_cases c8 : x18_1 = true
   · subst c8
     rw [if_pos rfl] at H
     obtain rfl := Option.some.inj H
     go_wp2
     go_ret
     exact ⟨zs19_0, zs19_1⟩
   replace H := bf_ c8 H; obtain ⟨rfl, H⟩ := H
   have H' := Aside0.mk H
   clear H
   go_wp2
   go_loopg [3, 4] kj1 (fun kq v3 v4 w' => ∃ (x3_2 : Int) (x4_2 : Int), v3 = .int .i64 x3_2 ∧ v4 = .int .i64 x4_2 ∧ Aside0 (spec_l1Read.l0 kq a0 x3_2 x4_2 = some r) ∧ Aside0 (kq ≤ kj1) ∧ Drawn0 w w')
   case atStart => exact ⟨(0), (0), zV_, zV_, H', ⟨Nat.le_refl _⟩, zs19_1⟩
   case round =>
    clear H'
    obtain ⟨x3_2, x4_2, rfl, rfl, HA, HK2, ⟨m2, rfl⟩⟩ := hrel
    cases gk with
    | zero => exact absurd HA.out (by simp [spec_l1Read.l0])
    | succ k2 =>
     have H := HA.out
     clear HA
     simp only [spec_l1Read.l0] at H
     by_cases c9 : x4_2 < (a0.size : Int)
     rotate_left
     · rw [if_neg c9] at H
       have c9b0 := decide_eq_false c9
       clear c9
       obtain rfl := Option.some.inj H
       go_wp2
       go_ret
       exact ⟨zs19_0, zs19_1⟩
     rw [if_pos c9] at H
     have c9b0 := decide_eq_true c9
     clear c9
     replace H := gd_ H; obtain ⟨c10, H⟩ := H
     have c10b0 : decide (0 ≤ x4_2) = true := decide_eq_true c10
     clear c10
     by_cases c12 : (bt a0 x4_2) < 48
     · rw [if_pos c12] at H
       have c12b0 := decide_eq_true c12
       clear c12
       obtain rfl := Option.some.inj H
       have p11 : 0 ≤ (x4_2 : Int) := of_decide_eq_true zS_
       have q11 : x4_2 < (a0.size : Int) := of_decide_eq_true zS_
       have hx11 := bt_at a0 x4_2
       replace p11 := eq_true p11
       replace q11 := eq_true q11
       go_wp2
       go_ret
       exact ⟨zs19_0, zs19_1⟩
     rw [if_neg c12] at H
     have c12b0 := decide_eq_false c12
     clear c12
     by_cases c14 : (bt a0 x4_2) > 57
     · rw [if_pos c14] at H
       have c14b0 : decide (57 < (bt a0 x4_2)) = true := decide_eq_true c14
       clear c14
       obtain rfl := Option.some.inj H
       have p11 : 0 ≤ (x4_2 : Int) := of_decide_eq_true zS_
       have q11 : x4_2 < (a0.size : Int) := of_decide_eq_true zS_
       have hx11 := bt_at a0 x4_2
       replace p11 := eq_true p11
       replace q11 := eq_true q11
       have p13 : 0 ≤ (x4_2 : Int) := of_decide_eq_true zS_
       have q13 : x4_2 < (a0.size : Int) := of_decide_eq_true zS_
       have hx13 := bt_at a0 x4_2
       replace p13 := eq_true p13
       replace q13 := eq_true q13
       go_wp2
       go_ret
       exact ⟨zs19_0, zs19_1⟩
     rw [if_neg c14] at H
     have c14b0 : decide (57 < (bt a0 x4_2)) = false := decide_eq_false c14
     clear c14
     have H' := Aside0.mk H
     clear H
     have p11 : 0 ≤ (x4_2 : Int) := of_decide_eq_true zS_
     have q11 : x4_2 < (a0.size : Int) := of_decide_eq_true zS_
     have hx11 := bt_at a0 x4_2
     replace p11 := eq_true p11
     replace q11 := eq_true q11
     have p13 : 0 ≤ (x4_2 : Int) := of_decide_eq_true zS_
     have q13 : x4_2 < (a0.size : Int) := of_decide_eq_true zS_
     have hx13 := bt_at a0 x4_2
     replace p13 := eq_true p13
     replace q13 := eq_true q13
     have p15 : 0 ≤ (x4_2 : Int) := of_decide_eq_true zS_
     have q15 : x4_2 < (a0.size : Int) := of_decide_eq_true zS_
     have hx15 := bt_at a0 x4_2
     replace p15 := eq_true p15
     replace q15 := eq_true q15
     go_wp2
     go_roundg k2
     case measure => have := HJ1.out; have := HK2.out; omega
     case rel => exact ⟨(wrap64 ((wrap64 (10 * x3_2)) + (((bt a0 x4_2) - 48) % 256))), (wrap64 (x4_2 + 1)), zV_, zV_, H', ⟨by have := HJ1.out; have := HK2.out; omega⟩, zs19_1⟩

theorem z19_0_ {p : Prop} (h : p := by repeat (first | (with_reducible first | exact HB.out | apply below_alloc | apply pw_below_drewN | apply below_drew1 | refine below_set ?_ GE503.out | refine below_set ?_ GE504.out) | exact HB.out)) : p := h
theorem z19_2_ {p : Prop} (h : p := by exact b_ BK503.out) : p := h
theorem z19_3_ {p : Prop} (h : p := by repeat (first | (with_reducible first | exact HB.out | apply below_alloc | apply pw_below_drewN | apply below_drew1 | refine below_set ?_ GE523.out) | exact HB.out)) : p := h
theorem z19_4_ {p : Prop} (h : p := by (try simp only [List.map_toArray, List.map_cons, List.map_nil]); first | done | rfl | (simp only [List.length_drop, List.length_take]; rfl)) : p := h
theorem z19_5_ {p : Prop} (h : p := by repeat (first | (with_reducible first | exact HB.out | apply below_alloc | apply pw_below_drewN | apply below_drew1 | refine below_set ?_ GE503.out) | exact HB.out)) : p := h
theorem z19_6_ {p : Prop} (h : p := by exact b_ BK523.out) : p := h
theorem z19_7_ {p : Prop} (h : p := by exact rr_ HO_505000.out) : p := h
theorem z19_8_ {p : Prop} (h : p := by exact rr_ HO_17.out) : p := h
theorem z19_9_ {p : Prop} (h : p := by refine b_ ?_; refine blk_put (cs := #[.slice none 0 0]) ?_ 0 _ rfl; exact b_ BK503.out) : p := h
theorem z19_10_ {p : Prop} (h : p := by refine b_ ?_; refine blk_put (cs := #[.slice none 0 0]) ?_ 0 _ rfl; refine b_ ?_; refine blk_far ?_ NB503_504.out _; exact b_ BK503.out) : p := h
theorem z19_11_ {p : Prop} (h : p := by refine b_ ?_; refine blk_put (cs := #[.slice none 0 0]) ?_ 0 _ rfl; refine b_ ?_; refine blk_far ?_ NB523_528.out _; exact b_ BK523.out) : p := h
theorem z19_12_ {p : Prop} (h : p := by exact b_ BK504.out) : p := h

/-! ### spec_pzParse: function 58 -/
def spec_pzParse.l0 : Nat → ByteArray → List ByteArray → Int → Int → List (S46) → Option ((List (S46)) × Bool)
 | 0, _, _, _, _, _ => none
 | k + 1, x0, x17, x18, x19, x505000 => if x19 < x18 then (if 0 ≤ x19 then (if x19 < (x17.length : Int) then ((spec_l1Split.f k (rdOf ByteArray.empty x17 x19) 46).bind fun t511 => (if (t511.length : Int) = 3 then (if 0 < (t511.length : Int) then ((spec_l1Read.f k (rdOf ByteArray.empty t511 0)).bind fun t515 => (if 1 < (t511.length : Int) then ((spec_l1Read.f k (rdOf ByteArray.empty t511 1)).bind fun t517 => (if 2 < (t511.length : Int) then ((spec_l1Read.f k (rdOf ByteArray.empty t511 2)).bind fun t519 => (if x505000.length < 5864062014805 then (spec_pzParse.l0 k x0 x17 x18 (wrap64 (x19 + 1)) (x505000 ++ [(⟨t515, t517, t519⟩ : S46)])) else (none))) else (none))) else (none))) else (none)) else (some (x505000, false)))) else (none)) else (none)) else ((spec_pzGood.f k x505000).bind fun t508 => (if t508 = true then ((spec_pzText.f k x505000).bind fun t509 => (some (x505000, (t509.toList == x0.toList)))) else (some (x505000, false))))
def spec_pzParse.f (k : Nat) (a0 : ByteArray) : Option ((List (S46)) × Bool) := if (a0.size : Int) > 60 then (some (([] : List (S46)), false)) else (if a0.toList = ([] : List UInt8) then (some (([] : List (S46)), true)) else ((spec_l1Split.f k a0 44).bind fun t505 => (spec_pzParse.l0 k a0 t505 (t505.length : Int) 0 ([] : List (S46)))))
theorem spec_pzParse.mono_l : ∀ k, (∀ y0 y1 y2 y3 y4, LeO (spec_pzParse.l0 k y0 y1 y2 y3 y4) (spec_pzParse.l0 (k + 1) y0 y1 y2 y3 y4))
 | 0 => fun _ _ _ _ _ r h => by simp [spec_pzParse.l0] at h
 | k + 1 => by
  have ih0 := spec_pzParse.mono_l k
  intro y0 y1 y2 y3 y4
  unfold spec_pzParse.l0
  have m1_ := @ih0
  have m2_ := @spec_l1Read.mono
  have m3_ := @spec_l1Split.mono
  have m4_ := @spec_pzGood.mono
  have m5_ := @spec_pzText.mono
  exact zM_
theorem spec_pzParse.mono : ∀ a0 k, LeO (spec_pzParse.f k a0) (spec_pzParse.f (k + 1) a0) := by
 intro a0 k
 have ih0 := spec_pzParse.mono_l k
 unfold spec_pzParse.f
 have m1_ := @ih0
 have m2_ := @spec_l1Read.mono
 have m3_ := @spec_l1Split.mono
 have m4_ := @spec_pzGood.mono
 have m5_ := @spec_pzText.mono
 exact zM_
def spec_pzParse.T12 : Bool × List (List Nat × List Nat) := (true, [([], []), ([0], [0]), ([], []), ([2], [2]), ([3], [3]), ([4], [4]), ([], []), ([6], [6]), ([7], [7]), ([8, 5], [8]), ([], []), ([10], [10]), ([11], [11]), ([12, 9], [12]), ([5, 9, 13], [5, 9, 13]), ([14], [14]), ([1, 15, 13], [1, 15]), ([0, 1, 2, 3, 4, 5, 6, 7, 8, 9, 10, 11, 12, 13, 14, 15, 16], []), ([17, 16, 16, 0, 1, 2, 3, 4, 5, 6, 7, 8, 9, 10, 11, 12, 13, 14, 15, 16], [16, 17])])
def spec_pzParse.B12 : List Nat := [0, 1, 0, 4, 12, 28, 0, 64, 192, 508, 0, 1024, 3072, 8188, 16380, 32764, 65535, 131071, 262143]
theorem spec_pzParse.tab12 : rtab .any (opsOf Tryz.f58 12) = spec_pzParse.T12 := by kernel_rfl
theorem spec_pzParse.bits12 : waitsOk spec_pzParse.T12.2 spec_pzParse.B12 = true := by kernel_rfl
def spec_pzParse.T14 : Bool × List (List Nat × List Nat) := (true, [([], []), ([], []), ([1], [1]), ([2, 2], [2]), ([3], [3]), ([4, 3, 3], [3, 4]), ([3], [3]), ([5, 6, 3], [3, 5, 6]), ([3, 7], [3, 7]), ([0, 5, 0], [0]), ([8, 9, 0, 1, 2, 3, 4, 5, 6, 7, 8, 9], [8])])
def spec_pzParse.B14 : List Nat := [0, 0, 2, 6, 14, 30, 14, 126, 254, 63, 1023]
theorem spec_pzParse.tab14 : rtab .any (opsOf Tryz.f58 14) = spec_pzParse.T14 := by kernel_rfl
theorem spec_pzParse.bits14 : waitsOk spec_pzParse.T14.2 spec_pzParse.B14 = true := by kernel_rfl
set_option maxHeartbeats 8000000 in
theorem spec_pzParse.calls (k : Nat) (a0 : ByteArray) (r1 : List (S46)) (r2 : Bool) (w : World) (h : spec_pzParse.f k a0 = some (r1, r2)) :
 Calls Tryz.prog 58 #[.string a0] w fun e w' => ∃ v0_ : Value, e = .returned (.tuple #[.agg #[v0_], .bool r2]) ∧ Kd.R k46 46 w' w.heap.size (fun _ => True) v0_ r1 ∧ Below w.heap.size w w' := by
 have hu26 := Tryz.underlying26
 have hu46 := Tryz.underlying46
 have HB := Aside0.mk (Below.refl w.heap.size w)
 unfold spec_pzParse.f at h
 have H := h
 clear h
 by_cases c2 : (a0.size : Int) > 60
 · rw [if_pos c2] at H
   have c2b0 : decide (60 < (a0.size : Int)) = true := decide_eq_true c2
   have c2b1 : decide (60 < a0.size) = true := decide_eq_true (by omega)
   clear c2
   simp only [Option.some.injEq, Prod.mk.injEq] at H
   obtain ⟨rfl, rfl⟩ := H
   go_enter Tryz.func58, Tryz.ntmps58
   go_wp2_with (first | (refine bx_ 2 #[.slice none 0 0] 26 ?_; intro gb503 hg w3 hbox hb; have BK503 := Aside0.mk (hbox); have GW503 : Aside0 (w.heap.size ≤ gb503) := bs_ hg zB_; have GE503 := GW503; replace HB := Aside0.mk (below_step zB_ hb); clear hb hbox hg) | (refine bx_ 4 #[.slice none 0 0] 26 ?_; intro gb504 hg w4 hbox hb; have BK504 := Aside0.mk (hbox); have GW504 : Aside0 (w.heap.size ≤ gb504) := bs_ hg z19_5_; have GE504 := GW504; replace HB := Aside0.mk (below_step z19_5_ hb); have NB503_504 := nl_ BK503 z19_2_ hg; have NB504_503 := ns_ NB503_504; replace BK503 := bb_ BK503 z19_2_ hb; clear hb hbox hg; have hnb5 := NB504_503.out; have hnc5 := NB503_504.out; have hcz6_0 : w4.cell? ⟨gb504, 0, none⟩ = some (.slice none 0 0) := (blk_cell BK504.out 0).trans rfl; have hfz6_0 := blk_frozen BK504.out 0; have hcz7_0 : w4.cell? ⟨gb503, 0, none⟩ = some (.slice none 0 0) := (blk_cell BK503.out 0).trans rfl; have hfz7_0 := blk_frozen BK503.out 0))
   refine bodyPost_ret (results_ct rfl _ _ gb503 26 #[.slice none 0 0] (0, 0) _ rfl z19_10_ Tryz.underlying26 rfl (by kernel_rfl)) rfl ?_
   exact ⟨_, zs19_4, zs19_6, zs19_18⟩
 rw [if_neg c2] at H
 have c2b0 : decide (60 < (a0.size : Int)) = false := decide_eq_false c2
 have c2b1 : decide (60 < a0.size) = false := decide_eq_false (by omega)
 clear c2
 by_cases c8 : a0.toList = ([] : List UInt8)
 · rw [if_pos c8] at H
   have c8b0 : (a0.toList == ([] : List UInt8)) = true := beq_iff_eq.mpr c8
   have c8b1 : (a0.toList != ([] : List UInt8)) = false := bne_eq_false_iff_eq.mpr c8
   clear c8
   simp only [Option.some.injEq, Prod.mk.injEq] at H
   obtain ⟨rfl, rfl⟩ := H
   go_enter Tryz.func58, Tryz.ntmps58
   go_wp2_with (first | (refine bx_ 2 #[.slice none 0 0] 26 ?_; intro gb503 hg w9 hbox hb; have BK503 := Aside0.mk (hbox); have GW503 : Aside0 (w.heap.size ≤ gb503) := bs_ hg zB_; have GE503 := GW503; replace HB := Aside0.mk (below_step zB_ hb); clear hb hbox hg) | (refine bx_ 4 #[.slice none 0 0] 26 ?_; intro gb504 hg w10 hbox hb; have BK504 := Aside0.mk (hbox); have GW504 : Aside0 (w.heap.size ≤ gb504) := bs_ hg z19_5_; have GE504 := GW504; replace HB := Aside0.mk (below_step z19_5_ hb); have NB503_504 := nl_ BK503 z19_2_ hg; have NB504_503 := ns_ NB503_504; replace BK503 := bb_ BK503 z19_2_ hb; clear hb hbox hg; have hnb11 := NB504_503.out; have hnc11 := NB503_504.out; have hcz12_0 : w10.cell? ⟨gb504, 0, none⟩ = some (.slice none 0 0) := (blk_cell BK504.out 0).trans rfl; have hfz12_0 := blk_frozen BK504.out 0; have hcz13_0 : w10.cell? ⟨gb503, 0, none⟩ = some (.slice none 0 0) := (blk_cell BK503.out 0).trans rfl; have hfz13_0 := blk_frozen BK503.out 0))
   refine bodyPost_ret (results_ct rfl _ _ gb503 26 #[.slice none 0 0] (0, 0) _ rfl z19_10_ Tryz.underlying26 rfl (by kernel_rfl)) rfl ?_
   exact ⟨_, zs19_4, zs19_6, zs19_18⟩
 rw [if_neg c8] at H
 have c8b0 : (a0.toList == ([] : List UInt8)) = false := beq_eq_false_iff_ne.mpr c8
 have c8b1 : (a0.toList != ([] : List UInt8)) = true := bne_iff_ne.mpr c8
 replace H := bd_ H; obtain ⟨t505, A14, H⟩ := H
 have H' := Aside0.mk H
 clear H
 go_enter Tryz.func58, Tryz.ntmps58
 go_wp2_with (first | (refine bx_ 2 #[.slice none 0 0] 26 ?_; intro gb503 hg w15 hbox hb; have BK503 := Aside0.mk (hbox); have GW503 : Aside0 (w.heap.size ≤ gb503) := bs_ hg zB_; have GE503 := GW503; replace HB := Aside0.mk (below_step zB_ hb); clear hb hbox hg) | (refine bx_ 4 #[.slice none 0 0] 26 ?_; intro gb504 hg w16 hbox hb; have BK504 := Aside0.mk (hbox); have GW504 : Aside0 (w.heap.size ≤ gb504) := bs_ hg z19_5_; have GE504 := GW504; replace HB := Aside0.mk (below_step z19_5_ hb); have NB503_504 := nl_ BK503 z19_2_ hg; have NB504_503 := ns_ NB503_504; replace BK503 := bb_ BK503 z19_2_ hb; clear hb hbox hg; have hnb17 := NB504_503.out; have hnc17 := NB503_504.out; have hcz18_0 : w16.cell? ⟨gb504, 0, none⟩ = some (.slice none 0 0) := (blk_cell BK504.out 0).trans rfl; have hfz18_0 := blk_frozen BK504.out 0) | ((with_reducible refine gc_ 77 rfl ?_); refine gL_ 17 Tryz.func77 #[.string a0, .int .u8 44] ?_; (with_reducible refine (spec_l1Split.calls k a0 44 t505 _ A14.out).mono ?_); rintro e w19 ⟨v506, rfl, ho0, hb⟩; refine ⟨_, rfl, ?_⟩; have HO507 := Aside0.mk (Kd.R_lower ho0 (below_size z19_0_)); replace BK503 := bb_ BK503 (by refine b_ ?_; refine blk_far ?_ NB503_504.out _; exact b_ BK503.out) hb; replace BK504 := Aside0.mk (blk_below (g := gb504) (o := .cells #[.slice none 0 0] 26 (0, 0)) (by refine b_ ?_; refine blk_put (cs := #[.slice none 0 0]) ?_ 0 _ rfl; exact b_ BK504.out) hb); replace HB := Aside0.mk (below_step z19_0_ hb); obtain ⟨Ao20, co20, eo20⟩ := Kd.R_slice HO507.out; subst eo20))
 go_loopg [19] k (fun kq v19 w' => ∃ (x19_1 : Int) (x505000_1 : List (S46)) (u505000 : Value), v19 = .int .i64 x19_1 ∧ Aside0 (spec_pzParse.l0 kq a0 t505 (t505.length : Int) x19_1 x505000_1 = some (r1, r2)) ∧ Aside0 (kq ≤ k) ∧ Aside0 (Kd.R Kd.string 9 w' w.heap.size (fun _ => True) (.slice Ao20 t505.length co20) t505) ∧ Aside0 (Kd.R k46 46 w' w.heap.size (fun _ => True) u505000 x505000_1) ∧ Aside0 (w'.heap[gb503]? = some (.cells #[(.slice none 0 0)] 26 (0, 0))) ∧ Aside0 (w'.heap[gb504]? = some (.cells #[u505000] 26 (0, 0))) ∧ Aside0 (Below w.heap.size w w'))
 case atStart => exact ⟨(0), (([] : List (S46))), (.slice none 0 0), zV_, H', ⟨Nat.le_refl _⟩, ⟨rr_ HO507.out⟩, ⟨zs19_6⟩, ⟨b_ BK503.out⟩, ⟨b_ BK504.out⟩, ⟨zs19_18⟩⟩
 case round =>
  clear H'
  obtain ⟨x19_1, x505000_1, u505000, rfl, HA, HK1, HO_17, HO_505000, BK503, BK504, HB⟩ := hrel
  cases gk with
  | zero => exact absurd HA.out (by simp [spec_pzParse.l0])
  | succ k1 =>
   have H := HA.out
   clear HA
   simp only [spec_pzParse.l0] at H
   by_cases c21 : x19_1 < (t505.length : Int)
   · rw [if_pos c21] at H
     have c21b0 := decide_eq_true c21
     clear c21
     replace H := gd_ H; obtain ⟨c22, H⟩ := H
     have c22b0 : decide (0 ≤ x19_1) = true := decide_eq_true c22
     clear c22
     replace H := gd_ H; obtain ⟨c23, H⟩ := H
     have c23b0 : decide (x19_1 < (t505.length : Int)) = true := decide_eq_true c23
     clear c23
     replace H := bd_ H; obtain ⟨t511, A24, H⟩ := H
     by_cases c25 : (t511.length : Int) = 3
     · obtain ⟨H, c25b0, c25b1⟩ := ep_ c25 H
       clear c25
       replace H := gd_ H; obtain ⟨c26, H⟩ := H
       have c26b0 : decide (0 < (t511.length : Int)) = true := decide_eq_true c26
       have c26b1 : decide (0 < t511.length) = true := decide_eq_true (by omega)
       clear c26
       replace H := bd_ H; obtain ⟨t515, A27, H⟩ := H
       replace H := gd_ H; obtain ⟨c28, H⟩ := H
       have c28b0 : decide (1 < (t511.length : Int)) = true := decide_eq_true c28
       have c28b1 : decide (1 < t511.length) = true := decide_eq_true (by omega)
       clear c28
       replace H := bd_ H; obtain ⟨t517, A29, H⟩ := H
       replace H := gd_ H; obtain ⟨c30, H⟩ := H
       have c30b0 : decide (2 < (t511.length : Int)) = true := decide_eq_true c30
       have c30b1 : decide (2 < t511.length) = true := decide_eq_true (by omega)
       clear c30
       replace H := bd_ H; obtain ⟨t519, A31, H⟩ := H
       replace H := gd_ H; obtain ⟨c32, H⟩ := H
       have LMc32 := Aside0.mk c32
       clear c32
       obtain ⟨y520, hy520⟩ : ∃ y_ : List (S46), y_ = (x505000_1 ++ [(⟨t515, t517, t519⟩ : S46)]) := ⟨_, rfl⟩
       replace H : (spec_pzParse.l0 k1 a0 t505 (t505.length : Int) (wrap64 (x19_1 + 1)) y520) = some (r1, r2) := by first | (rw [hy520]; with_reducible exact H) | (have H2_ := (Option.bind_some _ _).symm.trans H; rw [hy520]; with_reducible exact H2_) | (have H2_ := (Option.bind_some _ _).symm.trans H; with_reducible exact H2_) | with_reducible exact H | (rw [hy520]; exact H) | exact H
       have Ny520 := Aside0.mk hy520
       clear hy520
       have H' := Aside0.mk H
       clear H
       have p510 : 0 ≤ (x19_1 : Int) := of_decide_eq_true zS_
       have q510 : x19_1 < (t505.length : Int) := of_decide_eq_true zS_
       obtain ⟨ad510, e510, hx510_0⟩ := Kd.at_string (Kd.R_reads' HO_17.out).2.2 x19_1 p510 q510
       cases e510
       replace p510 := eq_true p510
       replace q510 := eq_true q510
       try go_wp2_with (first | ((with_reducible refine gc_ 77 rfl ?_); refine gL_ 24 Tryz.func77 #[.string (rdOf ByteArray.empty t505 x19_1), .int .u8 46] ?_; (with_reducible refine (spec_l1Split.calls k1 (rdOf ByteArray.empty t505 x19_1) 46 t511 _ A24.out).mono ?_); rintro e w33 ⟨v512, rfl, ho0, hb⟩; refine ⟨_, rfl, ?_⟩; replace HO_505000 := Aside0.mk (Kd.R_below z19_7_ hb); have HO513 := Aside0.mk (Kd.R_lower (Kd.R_new' ho0 (Kd.R_lt z19_8_)) (below_size z19_0_)); replace HO_17 := Aside0.mk (Kd.R_elder' z19_8_ (Kd.R_base ho0) hb); replace BK503 := bb_ BK503 z19_2_ hb; replace BK504 := bb_ BK504 z19_12_ hb; replace HB := Aside0.mk (below_step z19_0_ hb); obtain ⟨Ao34, co34, eo34⟩ := Kd.R_slice HO513.out; subst eo34))
       replace HO_17 := Aside0.mk (Kd.R_drew HO_17.out)
       replace HO_505000 := Aside0.mk (Kd.R_drew HO_505000.out)
       replace HO513 := Aside0.mk (Kd.R_drew HO513.out)
       replace BK503 := Aside0.mk (blk_drew BK503.out)
       replace BK504 := Aside0.mk (blk_drew BK504.out)
       replace HB := Aside0.mk (below_drew1 HB.out)
       have p514 : 0 ≤ (0 : Int) := (by omega)
       have q514 : 0 < (t511.length : Int) := of_decide_eq_true zS_
       obtain ⟨ad514, e514, hx514_0⟩ := Kd.at_string (Kd.R_reads' HO513.out).2.2 0 p514 q514
       cases e514
       have qi514 : (0 < t511.length) = True := eq_true (by omega)
       (try rw [show ((0 : Int)).toNat = 0 from rfl] at hx514_0)
       (try rw [Addr.add_zero'] at hx514_0)
       replace p514 := eq_true p514
       replace q514 := eq_true q514
       have p516 : 0 ≤ (1 : Int) := (by omega)
       have q516 : 1 < (t511.length : Int) := of_decide_eq_true zS_
       obtain ⟨ad516, e516, hx516_0⟩ := Kd.at_string (Kd.R_reads' HO513.out).2.2 1 p516 q516
       obtain rfl : ad514 = ad516 := (by injection e516)
       (try simp only [show (1 : Int).toNat = 1 from rfl, Nat.reduceMul, Nat.reduceEqDiff, Go.Addr.add, ↓reduceIte] at hx516_0)
       have qi516 : (1 < t511.length) = True := eq_true (by omega)
       (try rw [show ((1 : Int)).toNat = 1 from rfl] at hx516_0)
       replace p516 := eq_true p516
       replace q516 := eq_true q516
       have p518 : 0 ≤ (2 : Int) := (by omega)
       have q518 : 2 < (t511.length : Int) := of_decide_eq_true zS_
       obtain ⟨ad518, e518, hx518_0⟩ := Kd.at_string (Kd.R_reads' HO513.out).2.2 2 p518 q518
       obtain rfl : ad514 = ad518 := (by injection e518)
       (try simp only [show (2 : Int).toNat = 2 from rfl, Nat.reduceMul, Nat.reduceEqDiff, Go.Addr.add, ↓reduceIte] at hx518_0)
       have qi518 : (2 < t511.length) = True := eq_true (by omega)
       (try rw [show ((2 : Int)).toNat = 2 from rfl] at hx518_0)
       replace p518 := eq_true p518
       replace q518 := eq_true q518
       refine start_ (n := 19) (S := fun w' => w'.cell? ⟨gb504, 0, none⟩ = some (u505000) ∧ w'.cell? ad514 = some (.string (rdOf ByteArray.empty t511 0)) ∧ w'.cell? ⟨ad514.block, ad514.off + 1, none⟩ = some (.string (rdOf ByteArray.empty t511 1)) ∧ w'.cell? ⟨ad514.block, ad514.off + 2, none⟩ = some (.string (rdOf ByteArray.empty t511 2))) (ds := [16, 18]) #[false, false, false, false, false, false, false, false, false, false, false, false, false, false, false, false, false, false, false] (by kernel_rfl) rfl rfl ⟨(blk_cell BK504.out 0).trans rfl, hx514_0, hx516_0, hx518_0⟩ (fun hHeld => ?_); refine with_tabW spec_pzParse.tab12 spec_pzParse.bits12 (fun HT_ HW_ => ?_)
       generalize w33.drew = w35 at HO_17 HO_505000 HO513 BK503 BK504 HB hx514_0 hx516_0 hx518_0 hHeld ⊢
       refine pq_ 0 29 ?_
       refine pq_ 2 31 ?_
       refine pq_ 3 32 ?_
       refine pq_ 6 35 ?_
       refine pq_ 7 36 ?_
       refine pq_ 10 39 ?_
       refine pq_ 11 40 ?_
       refine take_ (i := 1) (N := some 30) (v := ?_) (a' := ?_) #[true, true, true, true, false, false, true, true, false, false, true, true, false, false, false, false, false, false, false] rfl rfl (take_ofW HT_.out HW_.out (by kernel_rfl)) (fun _ _ _ h => h) (Or.inl ⟨by rfl, ?_⟩) hHeld ?_ ?_
       rotate_left
       · rintro w' ⟨s0, s1, s2, s3⟩
         go_simp
         with_reducible rfl
       rotate_left
       · simp only [Act.put, List.setIfInBounds_toArray, List.set_cons_zero, List.set_cons_succ, i64_w, i32_w]
         rfl
       refine take_ (i := 4) (N := some 33) (v := ?_) (a' := ?_) #[true, true, true, true, true, false, true, true, false, false, true, true, false, false, false, false, false, false, false] rfl rfl (take_ofW HT_.out HW_.out (by kernel_rfl)) (fun _ _ _ h => h) (Or.inl ⟨by rfl, ?_⟩) hHeld ?_ ?_
       rotate_left
       · rintro w' ⟨s0, s1, s2, s3⟩
         go_simp
         with_reducible rfl
       rotate_left
       · simp only [Act.put, List.setIfInBounds_toArray, List.set_cons_zero, List.set_cons_succ, i64_w, i32_w]
         rfl
       refine take_ (i := 8) (N := some 37) (v := ?_) (a' := ?_) #[true, true, true, true, true, false, true, true, true, false, true, true, false, false, false, false, false, false, false] rfl rfl (take_ofW HT_.out HW_.out (by kernel_rfl)) (fun _ _ _ h => h) (Or.inl ⟨by rfl, ?_⟩) hHeld ?_ ?_
       rotate_left
       · rintro w' ⟨s0, s1, s2, s3⟩
         go_simp
         with_reducible rfl
       rotate_left
       · simp only [Act.put, List.setIfInBounds_toArray, List.set_cons_zero, List.set_cons_succ, i64_w, i32_w]
         rfl
       refine take_ (i := 12) (N := some 41) (v := ?_) (a' := ?_) #[true, true, true, true, true, false, true, true, true, false, true, true, true, false, false, false, false, false, false] rfl rfl (take_ofW HT_.out HW_.out (by kernel_rfl)) (fun _ _ _ h => h) (Or.inl ⟨by rfl, ?_⟩) hHeld ?_ ?_
       rotate_left
       · rintro w' ⟨s0, s1, s2, s3⟩
         go_simp
         with_reducible rfl
       rotate_left
       · simp only [Act.put, List.setIfInBounds_toArray, List.set_cons_zero, List.set_cons_succ, i64_w, i32_w]
         rfl
       refine one_ (i := 5) (N := some 34) #[true, true, true, true, true, true, true, true, true, false, true, true, true, false, false, false, false, false, false] rfl rfl (one_of HT_.out (by kernel_rfl)) (by decide) (fun K hK => ?_)
       refine goes_ Tryz.func78 (by kernel_rfl) rfl #[.string (rdOf ByteArray.empty t511 0)] (by rfl) rfl rfl z19_4_ ?_
       with_reducible refine (spec_l1Read.calls k1 (rdOf ByteArray.empty t511 0) t515 _ A27.out).mono ?_
       rintro e w' ⟨rfl, ⟨nd, rfl⟩⟩
       refine ⟨_, rfl, ?_⟩
       refine hK.out _ _ ⟨(blk_cell BK504.out 0).trans rfl, hHeld.2.1, hHeld.2.2.1, hHeld.2.2.2⟩ (fun hHeld => ?_)
       clear hK K
       refine norm_ (a' := ?_) ?_ ?_
       rotate_left
       · show Act.put _ (some 34) _ = _
         simp only [Act.put, List.setIfInBounds_toArray, List.set_cons_zero, List.set_cons_succ, i64_w, i32_w]
         rfl
       refine one_ (i := 9) (N := some 38) #[true, true, true, true, true, true, true, true, true, true, true, true, true, false, false, false, false, false, false] rfl rfl (one_of HT_.out (by kernel_rfl)) (by decide) (fun K hK => ?_)
       refine goes_ Tryz.func78 (by kernel_rfl) rfl #[.string (rdOf ByteArray.empty t511 1)] (by rfl) rfl rfl z19_4_ ?_
       with_reducible refine (spec_l1Read.calls k1 (rdOf ByteArray.empty t511 1) t517 _ A29.out).mono ?_
       rintro e w' ⟨rfl, ⟨nd, rfl⟩⟩
       refine ⟨_, rfl, ?_⟩
       refine hK.out _ _ ⟨(blk_cell BK504.out 0).trans rfl, hHeld.2.1, hHeld.2.2.1, hHeld.2.2.2⟩ (fun hHeld => ?_)
       clear hK K
       refine norm_ (a' := ?_) ?_ ?_
       rotate_left
       · show Act.put _ (some 38) _ = _
         simp only [Act.put, List.setIfInBounds_toArray, List.set_cons_zero, List.set_cons_succ, i64_w, i32_w]
         rfl
       refine one_ (i := 13) (N := some 42) #[true, true, true, true, true, true, true, true, true, true, true, true, true, true, false, false, false, false, false] rfl rfl (one_of HT_.out (by kernel_rfl)) (by decide) (fun K hK => ?_)
       refine goes_ Tryz.func78 (by kernel_rfl) rfl #[.string (rdOf ByteArray.empty t511 2)] (by rfl) rfl rfl z19_4_ ?_
       with_reducible refine (spec_l1Read.calls k1 (rdOf ByteArray.empty t511 2) t519 _ A31.out).mono ?_
       rintro e w' ⟨rfl, ⟨nd, rfl⟩⟩
       refine ⟨_, rfl, ?_⟩
       refine hK.out _ _ ⟨(blk_cell BK504.out 0).trans rfl, hHeld.2.1, hHeld.2.2.1, hHeld.2.2.2⟩ (fun hHeld => ?_)
       clear hK K
       refine norm_ (a' := ?_) ?_ ?_
       rotate_left
       · show Act.put _ (some 42) _ = _
         simp only [Act.put, List.setIfInBounds_toArray, List.set_cons_zero, List.set_cons_succ, i64_w, i32_w]
         rfl
       refine pq_ 14 43 ?_
       refine one_ (i := 15) (N := some 44) #[true, true, true, true, true, true, true, true, true, true, true, true, true, true, true, true, false, false, false] rfl rfl (one_of HT_.out (by kernel_rfl)) (by decide) (fun K hK => ?_)
       refine value_ (w1 := ?_) (v := ?_) (by rfl) rfl ?_ ?_
       rotate_left 2
       · go_simp
         constructor
         · rfl
         rfl
       refine hK.out _ _ ⟨(blk_cell (blk_alloc BK504.out _) 0).trans rfl, (World.cell?_alloc_lt _ _ _ (World.block_lt_of_cell? _ _ (hHeld.2.1))).trans (hHeld.2.1), (World.cell?_alloc_lt _ _ _ (World.block_lt_of_cell? _ _ (hHeld.2.2.1))).trans (hHeld.2.2.1), (World.cell?_alloc_lt _ _ _ (World.block_lt_of_cell? _ _ (hHeld.2.2.2))).trans (hHeld.2.2.2)⟩ (fun hHeld => ?_)
       clear hK K
       refine norm_ (a' := ?_) ?_ ?_
       rotate_left
       · show Act.put _ (some 44) _ = _
         simp only [Act.put, List.setIfInBounds_toArray, List.set_cons_zero, List.set_cons_succ, i64_w, i32_w]
         rfl
       refine last_ (i := 16) (N := some 45) #[true, true, true, true, true, true, true, true, true, true, true, true, true, true, true, true, true, false, false] rfl rfl (one_of HT_.out (by kernel_rfl)) (by decide) (fun K hK => ?_)
       refine Kd.R_append_step k46 (w0 := w) w.heap.size (by rfl) (.tmp 30) (.tmp 44) 24 46 (.agg #[(.int .i64 0), (.int .i64 0), (.int .i64 0)]) 24 rfl Tryz.underlying24 info46 rfl (by decide) (by omega) u505000 x505000_1 (⟨t515, t517, t519⟩ : S46) [.int .i64 t515, .int .i64 t517, .int .i64 t519] (fun _ => True) (fun _ => False) rfl rfl ?aP (fun _ hk => hk.elim) ?aF ?aO ?aB ?aS ?aL ?_
       (case aP => exact k46_mkM _ _ _ (⟨t515, t517, t519⟩ : S46))
       (case aB => exact z19_0_)
       (case aF => exact (fun _ _ => trivial))
       (case aO => exact z19_7_)
       (case aS => exact (below_size z19_0_))
       (case aL => have := LMc32.out; omega)
       intro v521 w36 ho hb hg hat
       rw [← Ny520.out] at ho
       replace HO_17 := Aside0.mk (Kd.R_over' z19_8_ (Kd.R_typed z19_7_) (by decide) hg)
       replace BK503 := Aside0.mk (blk_grown (g := gb503) (o := .cells #[.slice none 0 0] 26 (0, 0)) z19_2_ hg (Kd.R_ne HO_505000.out BK503.out (by decide)))
       replace BK504 := Aside0.mk (blk_grown (g := gb504) (o := .cells #[u505000] 26 (0, 0)) z19_12_ hg (Kd.R_ne HO_505000.out BK504.out (by decide)))
       replace HO513 := Aside0.mk (Kd.R_over' (rr_ HO513.out) (Kd.R_typed z19_7_) (by decide) hg)
       replace HB := Aside0.mk (hb)
       have HO522 := Aside0.mk (ho)
       clear HO_505000
       clear ho hb hg hat
       obtain ⟨Ao37, co37, eo37⟩ := Kd.R_slice HO522.out
       (first | subst eo37 | (injection eo37 with f1_ f2_ f3_; have f4_ := f1_.symm; have f5_ := f3_.symm; clear f1_ f2_ f3_; subst f4_; subst f5_))
       refine hK.out _ _ ?_
       clear hK K
       refine norm_ (a' := ?_) ?_ ?_
       rotate_left
       · show Act.put _ (some 45) _ = _
         simp only [Act.put, List.setIfInBounds_toArray, List.set_cons_zero, List.set_cons_succ, i64_w, i32_w]
         rfl
       refine pq_ 17 46 ?_
       refine last_ (i := 18) (N := none) #[true, true, true, true, true, true, true, true, true, true, true, true, true, true, true, true, true, true, true] rfl rfl (one_of HT_.out (by kernel_rfl)) (by decide) (fun K hK => ?_)
       have hs38 : w36.cell? ⟨gb504, 0, none⟩ = some (u505000) := (blk_cell BK504.out 0).trans rfl
       have hfs38 := blk_frozen BK504.out 0
       have hns38_0 := NB503_504.out
       have hms38_0 := NB504_503.out
       refine skip_ (w1 := ?_) (by rfl) rfl ?_ ?_
       rotate_left
       · go_simp
         rfl
       refine hK.out _ _ ?_
       clear hK K
       refine done_ (done_of HT_.out (by kernel_rfl)) ?_
       try go_wp2
       go_roundg k1
       case measure => have := HK1.out; omega
       case rel => exact ⟨(wrap64 (x19_1 + 1)), (y520), (.slice Ao37 y520.length co37), zV_, H', ⟨zs19_2⟩, ⟨by refine rr_ ?_; exact Kd.R_mono (Kd.R_far (p := ⟨gb504, 0, none⟩) (Kd.R_types HO_17.out BK504.out (by decide)) (fun _ hk => hk.2) (.slice Ao37 y520.length co37)) (fun _ hk => trivial)⟩, ⟨by refine rr_ ?_; exact Kd.R_mono (Kd.R_far (p := ⟨gb504, 0, none⟩) (Kd.R_types HO522.out BK504.out (by decide)) (fun _ hk => hk.2) (.slice Ao37 y520.length co37)) (fun _ hk => trivial)⟩, ⟨by refine b_ ?_; refine blk_far ?_ NB503_504.out _; exact b_ BK503.out⟩, ⟨by refine b_ ?_; refine blk_put (cs := #[u505000]) ?_ 0 _ rfl; exact b_ BK504.out⟩, ⟨zs19_18⟩⟩
     obtain ⟨H, c25b0, c25b1⟩ := en_ c25 H
     simp only [Option.some.injEq, Prod.mk.injEq] at H
     obtain ⟨rfl, rfl⟩ := H
     have p510 : 0 ≤ (x19_1 : Int) := of_decide_eq_true zS_
     have q510 : x19_1 < (t505.length : Int) := of_decide_eq_true zS_
     obtain ⟨ad510, e510, hx510_0⟩ := Kd.at_string (Kd.R_reads' HO_17.out).2.2 x19_1 p510 q510
     cases e510
     replace p510 := eq_true p510
     replace q510 := eq_true q510
     go_wp2_with (first | ((with_reducible refine gc_ 77 rfl ?_); refine gL_ 24 Tryz.func77 #[.string (rdOf ByteArray.empty t505 x19_1), .int .u8 46] ?_; (with_reducible refine (spec_l1Split.calls k1 (rdOf ByteArray.empty t505 x19_1) 46 t511 _ A24.out).mono ?_); rintro e w39 ⟨v512, rfl, ho0, hb⟩; refine ⟨_, rfl, ?_⟩; replace HO_505000 := Aside0.mk (Kd.R_below z19_7_ hb); have HO513 := Aside0.mk (Kd.R_lower (Kd.R_new' ho0 (Kd.R_lt z19_8_)) (below_size z19_0_)); replace HO_17 := Aside0.mk (Kd.R_elder' z19_8_ (Kd.R_base ho0) hb); replace BK503 := bb_ BK503 z19_2_ hb; replace BK504 := bb_ BK504 z19_12_ hb; replace HB := Aside0.mk (below_step z19_0_ hb); obtain ⟨Ao40, co40, eo40⟩ := Kd.R_slice HO513.out; subst eo40; have hnb41 := NB504_503.out; have hnc41 := NB503_504.out; have hcz42_0 : w39.cell? ⟨gb504, 0, none⟩ = some (u505000) := (blk_cell BK504.out 0).trans rfl; have hfz42_0 := blk_frozen BK504.out 0; obtain ⟨Ao43, co43, eo43⟩ := Kd.R_slice HO_505000.out; subst eo43; have hcz44_0 : w39.cell? ⟨gb503, 0, none⟩ = some (.slice none 0 0) := (blk_cell BK503.out 0).trans rfl; have hfz44_0 := blk_frozen BK503.out 0))
     refine bodyPost_ret (results_ct rfl _ _ gb503 26 #[.slice Ao43 x505000_1.length co43] (0, 0) _ rfl z19_9_ Tryz.underlying26 rfl (by kernel_rfl)) rfl ?_
     exact ⟨_, zs19_4, by refine rr_ ?_; exact Kd.R_mono (Kd.R_far (p := ⟨gb503, 0, none⟩) (Kd.R_types HO_505000.out BK503.out (by decide)) (fun _ hk => hk.2) (.slice Ao43 x505000_1.length co43)) (fun _ hk => trivial), zs19_18⟩
   rw [if_neg c21] at H
   have c21b0 := decide_eq_false c21
   clear c21
   replace H := bd_ H; obtain ⟨t508, A45, H⟩ := H
   by_cases c46 : t508 = true
   · subst c46
     rw [if_pos rfl] at H
     replace H := bd_ H; obtain ⟨t509, A47, H⟩ := H
     simp only [Option.some.injEq, Prod.mk.injEq] at H
     obtain ⟨rfl, rfl⟩ := H
     try go_wp2
     replace HO_17 := Aside0.mk (Kd.R_drew HO_17.out)
     replace HO_505000 := Aside0.mk (Kd.R_drew HO_505000.out)
     replace BK503 := Aside0.mk (blk_drew BK503.out)
     replace BK504 := Aside0.mk (blk_drew BK504.out)
     replace HB := Aside0.mk (below_drew1 HB.out)
     obtain ⟨Ao49, co49, eo49⟩ := Kd.R_slice HO_505000.out
     (first | subst eo49 | (injection eo49 with f1_ f2_ f3_; have f4_ := f1_.symm; have f5_ := f3_.symm; clear f1_ f2_ f3_; subst f4_; subst f5_))
     refine start_ (n := 11) (S := fun w' => w'.cell? ⟨gb504, 0, none⟩ = some (.slice Ao49 x505000_1.length co49)) (ds := []) #[false, false, false, false, false, false, false, false, false, false, false] (by kernel_rfl) rfl rfl ((blk_cell BK504.out 0).trans rfl) (fun hHeld => ?_); refine with_tabW spec_pzParse.tab14 spec_pzParse.bits14 (fun HT_ HW_ => ?_)
     generalize wr.drew = w48 at HO_17 HO_505000 BK503 BK504 HB hHeld ⊢
     refine take_ (i := 0) (N := some 48) (v := ?_) (a' := ?_) #[true, false, false, false, false, false, false, false, false, false, false] rfl rfl (take_ofW HT_.out HW_.out (by kernel_rfl)) (fun _ _ _ h => h) (Or.inl ⟨by rfl, ?_⟩) hHeld ?_ ?_
     rotate_left
     · intro w' s0
       go_simp
       with_reducible rfl
     rotate_left
     · simp only [Act.put, List.setIfInBounds_toArray, List.set_cons_zero, List.set_cons_succ, i64_w, i32_w]
       rfl
     refine take_ (i := 1) (N := some 49) (v := ?_) (a' := ?_) #[true, true, false, false, false, false, false, false, false, false, false] rfl rfl (take_ofW HT_.out HW_.out (by kernel_rfl)) (fun _ _ _ h => h) (Or.inl ⟨by rfl, ?_⟩) hHeld ?_ ?_
     rotate_left
     · intro w' s0
       go_simp
       with_reducible rfl
     rotate_left
     · simp only [Act.put, List.setIfInBounds_toArray, List.set_cons_zero, List.set_cons_succ, i64_w, i32_w]
       rfl
     refine one_ (i := 2) (N := some 50) #[true, true, true, false, false, false, false, false, false, false, false] rfl rfl (one_of HT_.out (by kernel_rfl)) (by decide) (fun K hK => ?_)
     refine goes_ Tryz.func39 (by kernel_rfl) rfl #[.agg #[.slice Ao49 x505000_1.length co49]] (by rfl) rfl rfl z19_4_ ?_
     with_reducible refine (spec_pzGood.calls k1 _ _ x505000_1 true _ ?side1 ?side2 A45.out).mono ?_
     (case side1 => exact zc19_0_)
     (case side2 => exact (Kd.R_reads' HO_505000.out).2.1)
     rintro e w50 ⟨rfl, hb⟩
     refine ⟨_, rfl, ?_⟩
     replace HO_17 := Aside0.mk (Kd.R_below z19_8_ hb)
     replace HO_505000 := Aside0.mk (Kd.R_below z19_7_ hb)
     replace BK503 := bb_ BK503 z19_2_ hb
     replace BK504 := bb_ BK504 z19_12_ hb
     replace HB := Aside0.mk (below_step z19_0_ hb)
     
     
     
     
     refine hK.out _ _ ((blk_cell BK504.out 0).trans rfl) (fun hHeld => ?_)
     clear hK K
     refine norm_ (a' := ?_) ?_ ?_
     rotate_left
     · show Act.put _ (some 50) _ = _
       simp only [Act.put, List.setIfInBounds_toArray, List.set_cons_zero, List.set_cons_succ, i64_w, i32_w]
       rfl
     refine pq_ 3 51 ?_
     refine pq_ 6 54 ?_
     refine take_ (i := 4) (N := some 52) (v := ?_) (a' := ?_) #[true, true, true, true, true, false, true, false, false, false, false] rfl rfl (take_ofW HT_.out HW_.out (by kernel_rfl)) (fun _ _ _ h => h) (Or.inl ⟨by rfl, ?_⟩) hHeld ?_ ?_
     rotate_left
     · intro w' s0
       go_simp
       with_reducible rfl
     rotate_left
     · simp only [Act.put, List.setIfInBounds_toArray, List.set_cons_zero, List.set_cons_succ, i64_w, i32_w]
       rfl
     refine one_ (i := 5) (N := some 53) #[true, true, true, true, true, true, true, false, false, false, false] rfl rfl (one_of HT_.out (by kernel_rfl)) (by decide) (fun K hK => ?_)
     refine goes_ Tryz.func45 (by kernel_rfl) rfl #[.agg #[.slice Ao49 x505000_1.length co49]] (by rfl) rfl rfl z19_4_ ?_
     with_reducible refine (spec_pzText.calls k1 _ _ x505000_1 t509 _ ?side1 ?side2 A47.out).mono ?_
     (case side1 => exact zc19_0_)
     (case side2 => exact (Kd.R_reads' HO_505000.out).2.1)
     rintro e w51 ⟨rfl, hb⟩
     refine ⟨_, rfl, ?_⟩
     replace HO_17 := Aside0.mk (Kd.R_below z19_8_ hb)
     replace HO_505000 := Aside0.mk (Kd.R_below z19_7_ hb)
     replace BK503 := bb_ BK503 z19_2_ hb
     replace BK504 := bb_ BK504 z19_12_ hb
     replace HB := Aside0.mk (below_step z19_0_ hb)
     
     
     
     
     refine hK.out _ _ ((blk_cell BK504.out 0).trans rfl) (fun hHeld => ?_)
     clear hK K
     refine norm_ (a' := ?_) ?_ ?_
     rotate_left
     · show Act.put _ (some 53) _ = _
       simp only [Act.put, List.setIfInBounds_toArray, List.set_cons_zero, List.set_cons_succ, i64_w, i32_w]
       rfl
     refine pq_ 7 55 ?_
     refine pq_ 8 56 ?_
     refine one_ (i := 9) (N := none) #[true, true, true, true, true, true, true, true, true, true, false] rfl rfl (one_of HT_.out (by kernel_rfl)) (by decide) (fun K hK => ?_)
     have hs52 : w51.cell? ⟨gb503, 0, none⟩ = some (.slice none 0 0) := (blk_cell BK503.out 0).trans rfl
     have hfs52 := blk_frozen BK503.out 0
     have hns52_1 := NB504_503.out
     have hms52_1 := NB503_504.out
     refine skip_ (w1 := ?_) (by rfl) rfl ?_ ?_
     rotate_left
     · go_simp
       rfl
     refine hK.out _ _ (((cell_far (p := ⟨gb503, _, none⟩) NB504_503.out _).trans (hHeld))) (fun hHeld => ?_)
     clear hK K
     refine pq_ 10 3 ?_
     refine done_ (done_of HT_.out (by kernel_rfl)) ?_
     try go_wp2
     refine bodyPost_ret (results_ct rfl _ _ gb503 26 #[.slice Ao49 x505000_1.length co49] (0, 0) _ rfl z19_9_ Tryz.underlying26 rfl (by kernel_rfl)) rfl ?_
     exact ⟨_, zs19_4, by refine rr_ ?_; exact Kd.R_mono (Kd.R_far (p := ⟨gb503, 0, none⟩) (Kd.R_types HO_505000.out BK503.out (by decide)) (fun _ hk => hk.2) (.slice Ao49 x505000_1.length co49)) (fun _ hk => trivial), zs19_18⟩
   replace H := bf_ c46 H; obtain ⟨rfl, H⟩ := H
   simp only [Option.some.injEq, Prod.mk.injEq] at H
   obtain ⟨rfl, rfl⟩ := H
   try go_wp2
   replace HO_17 := Aside0.mk (Kd.R_drew HO_17.out)
   replace HO_505000 := Aside0.mk (Kd.R_drew HO_505000.out)
   replace BK503 := Aside0.mk (blk_drew BK503.out)
   replace BK504 := Aside0.mk (blk_drew BK504.out)
   replace HB := Aside0.mk (below_drew1 HB.out)
   obtain ⟨Ao54, co54, eo54⟩ := Kd.R_slice HO_505000.out
   (first | subst eo54 | (injection eo54 with f1_ f2_ f3_; have f4_ := f1_.symm; have f5_ := f3_.symm; clear f1_ f2_ f3_; subst f4_; subst f5_))
   refine start_ (n := 11) (S := fun w' => w'.cell? ⟨gb504, 0, none⟩ = some (.slice Ao54 x505000_1.length co54)) (ds := []) #[false, false, false, false, false, false, false, false, false, false, false] (by kernel_rfl) rfl rfl ((blk_cell BK504.out 0).trans rfl) (fun hHeld => ?_); refine with_tabW spec_pzParse.tab14 spec_pzParse.bits14 (fun HT_ HW_ => ?_)
   generalize wr.drew = w53 at HO_17 HO_505000 BK503 BK504 HB hHeld ⊢
   refine take_ (i := 0) (N := some 48) (v := ?_) (a' := ?_) #[true, false, false, false, false, false, false, false, false, false, false] rfl rfl (take_ofW HT_.out HW_.out (by kernel_rfl)) (fun _ _ _ h => h) (Or.inl ⟨by rfl, ?_⟩) hHeld ?_ ?_
   rotate_left
   · intro w' s0
     go_simp
     with_reducible rfl
   rotate_left
   · simp only [Act.put, List.setIfInBounds_toArray, List.set_cons_zero, List.set_cons_succ, i64_w, i32_w]
     rfl
   refine take_ (i := 1) (N := some 49) (v := ?_) (a' := ?_) #[true, true, false, false, false, false, false, false, false, false, false] rfl rfl (take_ofW HT_.out HW_.out (by kernel_rfl)) (fun _ _ _ h => h) (Or.inl ⟨by rfl, ?_⟩) hHeld ?_ ?_
   rotate_left
   · intro w' s0
     go_simp
     with_reducible rfl
   rotate_left
   · simp only [Act.put, List.setIfInBounds_toArray, List.set_cons_zero, List.set_cons_succ, i64_w, i32_w]
     rfl
   refine one_ (i := 2) (N := some 50) #[true, true, true, false, false, false, false, false, false, false, false] rfl rfl (one_of HT_.out (by kernel_rfl)) (by decide) (fun K hK => ?_)
   refine goes_ Tryz.func39 (by kernel_rfl) rfl #[.agg #[.slice Ao54 x505000_1.length co54]] (by rfl) rfl rfl z19_4_ ?_
   with_reducible refine (spec_pzGood.calls k1 _ _ x505000_1 false _ ?side1 ?side2 A45.out).mono ?_
   (case side1 => exact zc19_0_)
   (case side2 => exact (Kd.R_reads' HO_505000.out).2.1)
   rintro e w55 ⟨rfl, hb⟩
   refine ⟨_, rfl, ?_⟩
   replace HO_17 := Aside0.mk (Kd.R_below z19_8_ hb)
   replace HO_505000 := Aside0.mk (Kd.R_below z19_7_ hb)
   replace BK503 := bb_ BK503 z19_2_ hb
   replace BK504 := bb_ BK504 z19_12_ hb
   replace HB := Aside0.mk (below_step z19_0_ hb)
   
   
   
   
   refine hK.out _ _ ((blk_cell BK504.out 0).trans rfl) (fun hHeld => ?_)
   clear hK K
   refine norm_ (a' := ?_) ?_ ?_
   rotate_left
   · show Act.put _ (some 50) _ = _
     simp only [Act.put, List.setIfInBounds_toArray, List.set_cons_zero, List.set_cons_succ, i64_w, i32_w]
     rfl
   refine pq_ 3 51 ?_
   refine pn_ 4 52 ?_
   refine pn_ 5 53 ?_
   refine pn_ 6 54 ?_
   refine pn_ 7 55 ?_
   refine pq_ 8 56 ?_
   refine one_ (i := 9) (N := none) #[true, true, true, true, true, true, true, true, true, true, false] rfl rfl (one_of HT_.out (by kernel_rfl)) (by decide) (fun K hK => ?_)
   have hs56 : w55.cell? ⟨gb503, 0, none⟩ = some (.slice none 0 0) := (blk_cell BK503.out 0).trans rfl
   have hfs56 := blk_frozen BK503.out 0
   have hns56_1 := NB504_503.out
   have hms56_1 := NB503_504.out
   refine skip_ (w1 := ?_) (by rfl) rfl ?_ ?_
   rotate_left
   · go_simp
     rfl
   refine hK.out _ _ (((cell_far (p := ⟨gb503, _, none⟩) NB504_503.out _).trans (hHeld))) (fun hHeld => ?_)
   clear hK K
   refine pq_ 10 3 ?_
   refine done_ (done_of HT_.out (by kernel_rfl)) ?_
   try go_wp2
   refine bodyPost_ret (results_ct rfl _ _ gb503 26 #[.slice Ao54 x505000_1.length co54] (0, 0) _ rfl z19_9_ Tryz.underlying26 rfl (by kernel_rfl)) rfl ?_
   exact ⟨_, zs19_4, by refine rr_ ?_; exact Kd.R_mono (Kd.R_far (p := ⟨gb503, 0, none⟩) (Kd.R_types HO_505000.out BK503.out (by decide)) (fun _ hk => hk.2) (.slice Ao54 x505000_1.length co54)) (fun _ hk => trivial), zs19_18⟩

/-! ### spec_ParsePuzzle: function 36 -/
def spec_ParsePuzzle.f (k : Nat) (a0 : ByteArray) : Option ((List (S46)) × Bool) := (spec_pzParse.f k a0).bind fun bt524 => (if bt524.2 = true then (some (bt524.1, true)) else (some (([] : List (S46)), false)))
theorem spec_ParsePuzzle.mono : ∀ a0 k, LeO (spec_ParsePuzzle.f k a0) (spec_ParsePuzzle.f (k + 1) a0) := by
 intro a0 k
 unfold spec_ParsePuzzle.f
 have m1_ := @spec_pzParse.mono
 exact zM_
set_option maxHeartbeats 8000000 in
theorem spec_ParsePuzzle.calls (k : Nat) (a0 : ByteArray) (r1 : List (S46)) (r2 : Bool) (w : World) (h : spec_ParsePuzzle.f k a0 = some (r1, r2)) :
 Calls Tryz.prog 36 #[.string a0] w fun e w' => ∃ v0_ : Value, e = .returned (.tuple #[.agg #[v0_], .bool r2]) ∧ Kd.R k46 46 w' w.heap.size (fun _ => True) v0_ r1 ∧ Below w.heap.size w w' := by
 have hu26 := Tryz.underlying26
 have HB := Aside0.mk (Below.refl w.heap.size w)
 unfold spec_ParsePuzzle.f at h
 have H := h
 clear h
 replace H := bd_ H; obtain ⟨⟨t524, t527⟩, A2, H⟩ := H
 dsimp only at H
 by_cases c3 : t527 = true
 · subst c3
   rw [if_pos rfl] at H
   simp only [Option.some.injEq, Prod.mk.injEq] at H
   obtain ⟨rfl, rfl⟩ := H
   go_enter Tryz.func36, Tryz.ntmps36
   go_wp2_with (first | (refine bx_ 2 #[.slice none 0 0] 26 ?_; intro gb523 hg w4 hbox hb; have BK523 := Aside0.mk (hbox); have GW523 : Aside0 (w.heap.size ≤ gb523) := bs_ hg zB_; have GE523 := GW523; replace HB := Aside0.mk (below_step zB_ hb); clear hb hbox hg) | ((with_reducible refine gc_ 58 rfl ?_); refine gL_ 8 Tryz.func58 #[.string a0] ?_; (with_reducible refine (spec_pzParse.calls k a0 t524 true _ A2.out).mono ?_); rintro e w5 ⟨v525, rfl, ho0, hb⟩; refine ⟨_, rfl, ?_⟩; have HO526 := Aside0.mk (Kd.R_lower ho0 (below_size z19_3_)); replace BK523 := bb_ BK523 z19_6_ hb; replace HB := Aside0.mk (below_step z19_3_ hb)) | (refine bx_ 4 #[.slice none 0 0] 26 ?_; intro gb528 hg w6 hbox hb; replace HO526 := Aside0.mk (Kd.R_below zq19_1_ hb); have BK528 := Aside0.mk (hbox); have GW528 : Aside0 (w.heap.size ≤ gb528) := bs_ hg z19_3_; have GE528 := GW528; replace HB := Aside0.mk (below_step z19_3_ hb); have NB523_528 := nl_ BK523 z19_6_ hg; have NB528_523 := ns_ NB523_528; replace BK523 := bb_ BK523 z19_6_ hb; clear hb hbox hg; obtain ⟨Ao7, co7, eo7⟩ := Kd.R_slice HO526.out; subst eo7; have hnb8 := NB528_523.out; have hnc8 := NB523_528.out; have hcz9_0 : w6.cell? ⟨gb528, 0, none⟩ = some (.slice none 0 0) := (blk_cell BK528.out 0).trans rfl; have hfz9_0 := blk_frozen BK528.out 0; have hcz10_0 : w6.cell? ⟨gb523, 0, none⟩ = some (.slice none 0 0) := (blk_cell BK523.out 0).trans rfl; have hfz10_0 := blk_frozen BK523.out 0))
   refine bodyPost_ret (results_ct rfl _ _ gb523 26 #[.slice Ao7 t524.length co7] (0, 0) _ rfl z19_11_ Tryz.underlying26 rfl (by kernel_rfl)) rfl ?_
   exact ⟨_, zs19_4, by refine rr_ ?_; exact Kd.R_mono (Kd.R_far (p := ⟨gb523, 0, none⟩) (Kd.R_far (p := ⟨gb528, 0, none⟩) (Kd.R_types (Kd.R_types HO526.out BK528.out (by decide)) BK523.out (by decide)) (fun _ hk => hk.1.2) (.slice Ao7 t524.length co7)) (fun _ hk => hk.2) (.slice Ao7 t524.length co7)) (fun _ hk => trivial), zs19_19⟩
 replace H := bf_ c3 H; obtain ⟨rfl, H⟩ := H
 simp only [Option.some.injEq, Prod.mk.injEq] at H
 obtain ⟨rfl, rfl⟩ := H
 go_enter Tryz.func36, Tryz.ntmps36
 go_wp2_with (first | (refine bx_ 2 #[.slice none 0 0] 26 ?_; intro gb523 hg w11 hbox hb; have BK523 := Aside0.mk (hbox); have GW523 : Aside0 (w.heap.size ≤ gb523) := bs_ hg zB_; have GE523 := GW523; replace HB := Aside0.mk (below_step zB_ hb); clear hb hbox hg) | ((with_reducible refine gc_ 58 rfl ?_); refine gL_ 8 Tryz.func58 #[.string a0] ?_; (with_reducible refine (spec_pzParse.calls k a0 t524 false _ A2.out).mono ?_); rintro e w12 ⟨v525, rfl, ho0, hb⟩; refine ⟨_, rfl, ?_⟩; have HO526 := Aside0.mk (Kd.R_lower ho0 (below_size z19_3_)); replace BK523 := bb_ BK523 z19_6_ hb; replace HB := Aside0.mk (below_step z19_3_ hb)) | (refine bx_ 4 #[.slice none 0 0] 26 ?_; intro gb528 hg w13 hbox hb; replace HO526 := Aside0.mk (Kd.R_below zq19_1_ hb); have BK528 := Aside0.mk (hbox); have GW528 : Aside0 (w.heap.size ≤ gb528) := bs_ hg z19_3_; have GE528 := GW528; replace HB := Aside0.mk (below_step z19_3_ hb); have NB523_528 := nl_ BK523 z19_6_ hg; have NB528_523 := ns_ NB523_528; replace BK523 := bb_ BK523 z19_6_ hb; clear hb hbox hg; obtain ⟨Ao14, co14, eo14⟩ := Kd.R_slice HO526.out; subst eo14; have hnb15 := NB528_523.out; have hnc15 := NB523_528.out; have hcz16_0 : w13.cell? ⟨gb528, 0, none⟩ = some (.slice none 0 0) := (blk_cell BK528.out 0).trans rfl; have hfz16_0 := blk_frozen BK528.out 0; have hcz17_0 : w13.cell? ⟨gb523, 0, none⟩ = some (.slice none 0 0) := (blk_cell BK523.out 0).trans rfl; have hfz17_0 := blk_frozen BK523.out 0))
 refine bodyPost_ret (results_ct rfl _ _ gb523 26 #[.slice none 0 0] (0, 0) _ rfl z19_11_ Tryz.underlying26 rfl (by kernel_rfl)) rfl ?_
 exact ⟨_, zs19_4, zs19_6, zs19_19⟩

end Go.Proofs.YtmfbjhkhgkphcaaGreatDoor.PFnTicketsGuessed

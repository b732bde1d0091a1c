-- Laid by this session's program gprint.py over the kit's print.
import Derived.Test.YtjnfaidngaobmaaGreatDoorZip
import Derived.Test.YtjnfaidngaobmaaGreatDoorPFnLeastOfDigitsx0
import Derived.Test.YtjnfaidngaobmaaGreatDoorPFnLeastOfDigitsx2
namespace Go.Proofs.YtjnfaidngaobmaaGreatDoor.PFnLeastOfDigits
open Go.RowKit Go.Proofs.YtjnfaidngaobmaaGreatDoorW.PrintWords Go.Proofs.YtjnfaidngaobmaaGreatDoorW.PrintLast Go.Proofs.YtjnfaidngaobmaaGreatDoorW.PrintMore
attribute [local go_sem] max2_int min2_int max_two min_two max_three min_three max_four min_four   -- for this text's walks alone
set_option linter.unusedVariables false
set_option linter.unusedSimpArgs false

/-! ### spec_leTurn: function 39 -/
mutual
def spec_leTurn.l0 : Nat → Bool → List Int → Int → Option (List Int × Bool)
 | 0, _, _, _ => none
 | k + 1, x1, x6, x7 => if x7 ≥ 0 then (if x1 = true then (if 0 ≤ x7 then (if x7 < (x6.length : Int) then (if 0 ≤ (wrap64 (x7 + 1)) then (if (wrap64 (x7 + 1)) < (x6.length : Int) then (if (rd x6 x7) ≥ (rd x6 (wrap64 (x7 + 1))) then (spec_leTurn.j1 k x1 x6 x7 true) else (spec_leTurn.j1 k x1 x6 x7 false)) else (none)) else (none)) else (none)) else (none)) else (if 0 ≤ x7 then (if x7 < (x6.length : Int) then (if 0 ≤ (wrap64 (x7 + 1)) then (if (wrap64 (x7 + 1)) < (x6.length : Int) then (spec_leTurn.j1 k x1 x6 x7 (decide ((rd x6 x7) ≤ (rd x6 (wrap64 (x7 + 1)))))) else (none)) else (none)) else (none)) else (none))) else (some (([] : List Int), false))
def spec_leTurn.j1 : Nat → Bool → List Int → Int → Bool → Option (List Int × Bool)
 | 0, _, _, _, _ => none
 | k + 1, x1, x6, x7, x50 => if x50 = true then (spec_leTurn.l0 k x1 x6 (wrap64 (x7 - 1))) else (spec_leTurn.l1 k x1 x6 x7 (wrap64 ((x6.length : Int) - 1)))
def spec_leTurn.j3 : Nat → List Int → Int → Int → Option (List Int × Bool)
 | 0, _, _, _ => none
 | k + 1, x6, x7, x8 => if 0 ≤ x7 then (if x7 < (x6.length : Int) then (if 0 ≤ x8 then (if x8 < (x6.length : Int) then (spec_leTurn.l2 k ((x6.set (x7 : Int).toNat (rd x6 x8)).set (x8 : Int).toNat (rd x6 x7)) (wrap64 (x7 + 1)) (wrap64 ((x6.length : Int) - 1))) else (none)) else (none)) else (none)) else (none)
def spec_leTurn.l2 : Nat → List Int → Int → Int → Option (List Int × Bool)
 | 0, _, _, _ => none
 | k + 1, x6, x10, x11 => if x10 < x11 then (if 0 ≤ x10 then (if x10 < (x6.length : Int) then (if 0 ≤ x11 then (if x11 < (x6.length : Int) then (spec_leTurn.l2 k ((x6.set (x10 : Int).toNat (rd x6 x11)).set (x11 : Int).toNat (rd x6 x10)) (wrap64 (x10 + 1)) (wrap64 (x11 - 1))) else (none)) else (none)) else (none)) else (none)) else (some (x6, true))
def spec_leTurn.l1 : Nat → Bool → List Int → Int → Int → Option (List Int × Bool)
 | 0, _, _, _, _ => none
 | k + 1, x1, x6, x7, x8 => if x1 = true then (if 0 ≤ x8 then (if x8 < (x6.length : Int) then (if 0 ≤ x7 then (if x7 < (x6.length : Int) then (if (rd x6 x8) ≤ (rd x6 x7) then (spec_leTurn.l1 k x1 x6 x7 (wrap64 (x8 - 1))) else (spec_leTurn.j3 k x6 x7 x8)) else (none)) else (none)) else (none)) else (none)) else (if 0 ≤ x8 then (if x8 < (x6.length : Int) then (if 0 ≤ x7 then (if x7 < (x6.length : Int) then (if (rd x6 x8) ≥ (rd x6 x7) then (spec_leTurn.l1 k x1 x6 x7 (wrap64 (x8 - 1))) else (spec_leTurn.j3 k x6 x7 x8)) else (none)) else (none)) else (none)) else (none))
end
def spec_leTurn.f (k : Nat) (l0 : List Int) (a1 : Bool) : Option (List Int × Bool) := (spec_l1Own.f l0).bind fun t172 => (spec_leTurn.l0 k a1 t172 (wrap64 ((t172.length : Int) - 2)))
theorem spec_leTurn.mono_l : ∀ k, (∀ y0 y1 y2, LeO (spec_leTurn.l0 k y0 y1 y2) (spec_leTurn.l0 (k + 1) y0 y1 y2)) ∧ (∀ y0 y1 y2 y3, LeO (spec_leTurn.j1 k y0 y1 y2 y3) (spec_leTurn.j1 (k + 1) y0 y1 y2 y3)) ∧ (∀ y0 y1 y2, LeO (spec_leTurn.j3 k y0 y1 y2) (spec_leTurn.j3 (k + 1) y0 y1 y2)) ∧ (∀ y0 y1 y2, LeO (spec_leTurn.l2 k y0 y1 y2) (spec_leTurn.l2 (k + 1) y0 y1 y2)) ∧ (∀ y0 y1 y2 y3, LeO (spec_leTurn.l1 k y0 y1 y2 y3) (spec_leTurn.l1 (k + 1) y0 y1 y2 y3))
 | 0 => ⟨fun _ _ _ r h => by simp [spec_leTurn.l0] at h, fun _ _ _ _ r h => by simp [spec_leTurn.j1] at h, fun _ _ _ r h => by simp [spec_leTurn.j3] at h, fun _ _ _ r h => by simp [spec_leTurn.l2] at h, fun _ _ _ _ r h => by simp [spec_leTurn.l1] at h⟩
 | k + 1 => by
  obtain ⟨ih0, ih1, ih2, ih3, ih4⟩ := spec_leTurn.mono_l k
  refine ⟨?_, ?_, ?_, ?_, ?_⟩
  · intro y0 y1 y2
    unfold spec_leTurn.l0
    repeat' first
    | (with_reducible exact ih0 _ _ _)
    | (with_reducible exact ih1 _ _ _ _)
    | (with_reducible exact ih2 _ _ _)
    | (with_reducible exact ih3 _ _ _)
    | (with_reducible exact ih4 _ _ _ _)
    | (with_reducible exact LeO.refl _)
    | (with_reducible exact LeO.none _)
    | (with_reducible refine LeO.ite ?_ ?_)
    | (with_reducible refine LeO.bind ?_ (fun _ => ?_))
    | exact LeO.none _
    | refine LeO.ite ?_ ?_
    | refine LeO.bind ?_ (fun _ => ?_)
  · intro y0 y1 y2 y3
    unfold spec_leTurn.j1
    repeat' first
    | (with_reducible exact ih0 _ _ _)
    | (with_reducible exact ih1 _ _ _ _)
    | (with_reducible exact ih2 _ _ _)
    | (with_reducible exact ih3 _ _ _)
    | (with_reducible exact ih4 _ _ _ _)
    | (with_reducible exact LeO.refl _)
    | (with_reducible exact LeO.none _)
    | (with_reducible refine LeO.ite ?_ ?_)
    | (with_reducible refine LeO.bind ?_ (fun _ => ?_))
    | exact LeO.none _
    | refine LeO.ite ?_ ?_
    | refine LeO.bind ?_ (fun _ => ?_)
  · intro y0 y1 y2
    unfold spec_leTurn.j3
    repeat' first
    | (with_reducible exact ih0 _ _ _)
    | (with_reducible exact ih1 _ _ _ _)
    | (with_reducible exact ih2 _ _ _)
    | (with_reducible exact ih3 _ _ _)
    | (with_reducible exact ih4 _ _ _ _)
    | (with_reducible exact LeO.refl _)
    | (with_reducible exact LeO.none _)
    | (with_reducible refine LeO.ite ?_ ?_)
    | (with_reducible refine LeO.bind ?_ (fun _ => ?_))
    | exact LeO.none _
    | refine LeO.ite ?_ ?_
    | refine LeO.bind ?_ (fun _ => ?_)
  · intro y0 y1 y2
    unfold spec_leTurn.l2
    repeat' first
    | (with_reducible exact ih0 _ _ _)
    | (with_reducible exact ih1 _ _ _ _)
    | (with_reducible exact ih2 _ _ _)
    | (with_reducible exact ih3 _ _ _)
    | (with_reducible exact ih4 _ _ _ _)
    | (with_reducible exact LeO.refl _)
    | (with_reducible exact LeO.none _)
    | (with_reducible refine LeO.ite ?_ ?_)
    | (with_reducible refine LeO.bind ?_ (fun _ => ?_))
    | exact LeO.none _
    | refine LeO.ite ?_ ?_
    | refine LeO.bind ?_ (fun _ => ?_)
  intro y0 y1 y2 y3
  unfold spec_leTurn.l1
  repeat' first
  | (with_reducible exact ih0 _ _ _)
  | (with_reducible exact ih1 _ _ _ _)
  | (with_reducible exact ih2 _ _ _)
  | (with_reducible exact ih3 _ _ _)
  | (with_reducible exact ih4 _ _ _ _)
  | (with_reducible exact LeO.refl _)
  | (with_reducible exact LeO.none _)
  | (with_reducible refine LeO.ite ?_ ?_)
  | (with_reducible refine LeO.bind ?_ (fun _ => ?_))
  | exact LeO.none _
  | refine LeO.ite ?_ ?_
  | refine LeO.bind ?_ (fun _ => ?_)
theorem spec_leTurn.mono : ∀ a0 a1 k, LeO (spec_leTurn.f k a0 a1) (spec_leTurn.f (k + 1) a0 a1) := by
 intro a0 a1 k
 obtain ⟨ih0, ih1, ih2, ih3, ih4⟩ := spec_leTurn.mono_l k
 unfold spec_leTurn.f
 repeat' first
  | (with_reducible exact ih0 _ _ _)
  | (with_reducible exact ih1 _ _ _ _)
  | (with_reducible exact ih2 _ _ _)
  | (with_reducible exact ih3 _ _ _)
  | (with_reducible exact ih4 _ _ _ _)
  | (with_reducible exact LeO.refl _)
  | (with_reducible exact LeO.none _)
  | (with_reducible refine LeO.ite ?_ ?_)
  | (with_reducible refine LeO.bind ?_ (fun _ => ?_))
  | exact LeO.none _
  | refine LeO.ite ?_ ?_
  | refine LeO.bind ?_ (fun _ => ?_)
set_option maxHeartbeats 8000000 in
set_option maxRecDepth 100000 in
theorem spec_leTurn.calls (k : Nat) (A0 : Option Addr) (c0 : Nat) (l0 : List Int) (a1 : Bool) (r1 : List Int) (r2 : Bool) (w : World) (hr0 : Kd.C (Kd.int .i64) w A0 l0.length l0) (hc0 : l0.length ≤ c0) (h : spec_leTurn.f k l0 a1 = some (r1, r2)) :
 Calls Tryz.prog 39 #[.slice A0 l0.length c0, .bool a1] w fun e w' => ∃ v0_ : Value, e = .returned (.tuple #[v0_, .bool r2]) ∧ Kd.R (Kd.int .i64) 3 w' w.heap.size (fun _ => True) v0_ r1 ∧ Below w.heap.size w w' := by
 have HR0 := Aside0.mk hr0
 have HC0 := Aside0.mk hc0
 clear hr0 hc0
 have HB := Aside0.mk (Below.refl w.heap.size w)
 unfold spec_leTurn.f at h
 have H := h
 clear h
 replace H := bd_ H; obtain ⟨t172, A3, H⟩ := H
 have H' := Aside0.mk H
 clear H
 go_enter Tryz.func39, Tryz.ntmps39
 go_wp2_with (first | (go_at_call 70; (with_reducible refine (spec_l1Own.calls _ _ l0 t172 _ ?side1 ?side2 A3.out).mono ?_); (case side1 => repeat (first | exact HR0.out | (with_reducible refine Kd.C_alloc ?_ _) | (with_reducible refine Kd.C_drewN ?_ _) | (with_reducible refine Kd.C_drew ?_))); (case side2 => exact HC0.out); rintro e w4 ⟨v173, rfl, ho0, hb⟩; have HO174 := Aside0.mk (Kd.R_lower ho0 (below_size zB_)); replace HB := Aside0.mk (below_step zB_ hb); (try clear hb); (try clear ho0); obtain ⟨Ao5, co5, eo5⟩ := Kd.R_slice HO174.out; subst eo5))
 repeat (go_quiet (fail); try go_wp2_with (first | (go_at_call 70; (with_reducible refine (spec_l1Own.calls _ _ l0 t172 _ ?side1 ?side2 A3.out).mono ?_); (case side1 => repeat (first | exact HR0.out | (with_reducible refine Kd.C_alloc ?_ _) | (with_reducible refine Kd.C_drewN ?_ _) | (with_reducible refine Kd.C_drew ?_))); (case side2 => exact HC0.out); rintro e w4 ⟨v173, rfl, ho0, hb⟩; have HO174 := Aside0.mk (Kd.R_lower ho0 (below_size zB_)); replace HB := Aside0.mk (below_step zB_ hb); (try clear hb); (try clear ho0); obtain ⟨Ao5, co5, eo5⟩ := Kd.R_slice HO174.out; subst eo5)))
 go_loopg [7] k (fun kq v7 w' => ∃ (x6_1 : List Int) (x7_1 : Int), v7 = .int .i64 x7_1 ∧ Aside0 (spec_leTurn.l0 kq a1 x6_1 x7_1 = some (r1, r2)) ∧ Aside0 (kq ≤ k) ∧ Aside0 (Kd.R (Kd.int .i64) 3 w' w.heap.size (fun _ => True) (.slice Ao5 t172.length co5) x6_1) ∧ Aside0 (Below w.heap.size w w'))
 case atStart => exact ⟨(t172), (wrap64 ((t172.length : Int) - 2)), zV_, H', ⟨Nat.le_refl _⟩, ⟨by (with_reducible repeat (first | apply Kd.R_alloc | apply Kd.R_drewN | apply Kd.R_drew)); exact HO174.out⟩, ⟨zB_⟩⟩
 case round =>
  clear H'
  (try clear p2);(try clear c3)
  obtain ⟨x6_1, x7_1, rfl, HA, HK1, HO_6, HB⟩ := hrel
  have hl6_1 := (Kd.R_reads' HO_6.out).1
  rw [hl6_1] at HO_6
  (try simp only [hl6_1])
  cases gk with
  | zero => exact absurd HA.out (by simp [spec_leTurn.l0])
  | succ k1 =>
   have H := HA.out
   clear HA
   simp only [spec_leTurn.l0] at H
   by_cases c6 : x7_1 ≥ 0
   · rw [if_pos c6] at H
     have c6b0 : decide (0 ≤ x7_1) = true := decide_eq_true c6
     clear c6
     have HC7 := Aside0.mk H
     clear H
     go_upto_region 5 with (fail)
     repeat (go_quiet (fail); go_upto_region 5 with (fail))
     go_cut [50] (fun v50 wc => ∃ (kq : Nat) (x50_6 : Bool), v50 = .bool x50_6 ∧ Aside0 (spec_leTurn.j1 kq a1 x6_1 x7_1 x50_6 = some (r1, r2)) ∧ Aside0 (kq ≤ k1) ∧ Aside0 (Kd.R (Kd.int .i64) 3 wc w.heap.size (fun _ => True) (.slice Ao5 x6_1.length co5) x6_1) ∧ Aside0 (Below w.heap.size w wc))
     case first =>
      have H := HC7.out
      clear HC7
      by_cases c8 : a1 = true
      · subst c8
        rw [if_pos rfl] at H
        replace H := gd_ H; obtain ⟨c9, H⟩ := H
        have c9b0 : decide (0 ≤ x7_1) = true := decide_eq_true c9
        clear c9
        (first | rw [c9b0] | (simp only [i64_w, i32_w]; rw [c9b0]) | skip)
        replace H := gd_ H; obtain ⟨c10, H⟩ := H
        have c10b0 : decide (x7_1 < (x6_1.length : Int)) = true := decide_eq_true c10
        clear c10
        obtain ⟨ji11, hji11⟩ : ∃ j_ : Int, (wrap64 (x7_1 + 1)) = j_ := ⟨_, rfl⟩
        replace H : (if 0 ≤ (ji11) then (if (ji11) < (x6_1.length : Int) then (if (rd x6_1 x7_1) ≥ (rd x6_1 (ji11)) then (spec_leTurn.j1 k1 true x6_1 x7_1 true) else (spec_leTurn.j1 k1 true x6_1 x7_1 false)) else (none)) else (none)) = some (r1, r2) := by first | (rw [hji11] at H; exact H) | (simp only [hji11] at H ⊢; exact H)
        have hji11w : (IntKind.i64.wrap (x7_1 + 1)) = ji11 := (i64_w _).trans hji11
        replace H := gd_ H; obtain ⟨c12, H⟩ := H
        have c12b0 : decide (0 ≤ (ji11)) = true := decide_eq_true c12
        clear c12
        replace H := gd_ H; obtain ⟨c13, H⟩ := H
        have c13b0 : decide ((ji11) < (x6_1.length : Int)) = true := decide_eq_true c13
        clear c13
        by_cases c14 : (rd x6_1 x7_1) ≥ (rd x6_1 (ji11))
        · rw [if_pos c14] at H
          have c14b0 : decide ((rd x6_1 (ji11)) ≤ (rd x6_1 x7_1)) = true := decide_eq_true c14
          clear c14
          have H' := Aside0.mk H
          clear H
          have p175 : 0 ≤ (x7_1 : Int) := of_decide_eq_true zS_
          have q175 : x7_1 < (x6_1.length : Int) := of_decide_eq_true zS_
          obtain ⟨ad175, e175, hx175_0⟩ := Kd.at_int (Kd.R_reads' HO_6.out).2.2 x7_1 p175 q175
          cases e175
          replace p175 := eq_true p175
          replace q175 := eq_true q175
          have p176 : 0 ≤ ((ji11) : Int) := of_decide_eq_true zS_
          have q176 : (ji11) < (x6_1.length : Int) := of_decide_eq_true zS_
          obtain ⟨ad176, e176, hx176_0⟩ := Kd.at_int (Kd.R_reads' HO_6.out).2.2 (ji11) p176 q176
          obtain rfl : ad175 = ad176 := (by injection e176)
          replace p176 := eq_true p176
          replace q176 := eq_true q176
          go_wp2
          repeat (go_quiet (fail); try go_wp2)
          go_meet
          case rel => exact ⟨_, (true), zV_, H', ⟨by have := HK1.out; first | omega | exact Nat.le_refl _⟩, ⟨by (try simp only [hl6_1]); (with_reducible repeat (first | apply Kd.R_alloc | apply Kd.R_drewN | apply Kd.R_drew)); exact HO_6.out⟩, ⟨zB_⟩⟩
        rw [if_neg c14] at H
        have c14b0 : decide ((rd x6_1 (ji11)) ≤ (rd x6_1 x7_1)) = false := decide_eq_false c14
        clear c14
        have H' := Aside0.mk H
        clear H
        have p175 : 0 ≤ (x7_1 : Int) := of_decide_eq_true zS_
        have q175 : x7_1 < (x6_1.length : Int) := of_decide_eq_true zS_
        obtain ⟨ad175, e175, hx175_0⟩ := Kd.at_int (Kd.R_reads' HO_6.out).2.2 x7_1 p175 q175
        cases e175
        replace p175 := eq_true p175
        replace q175 := eq_true q175
        have p176 : 0 ≤ ((ji11) : Int) := of_decide_eq_true zS_
        have q176 : (ji11) < (x6_1.length : Int) := of_decide_eq_true zS_
        obtain ⟨ad176, e176, hx176_0⟩ := Kd.at_int (Kd.R_reads' HO_6.out).2.2 (ji11) p176 q176
        obtain rfl : ad175 = ad176 := (by injection e176)
        replace p176 := eq_true p176
        replace q176 := eq_true q176
        go_wp2
        repeat (go_quiet (fail); try go_wp2)
        go_meet
        case rel => exact ⟨_, (false), zV_, H', ⟨by have := HK1.out; first | omega | exact Nat.le_refl _⟩, ⟨by (try simp only [hl6_1]); (with_reducible repeat (first | apply Kd.R_alloc | apply Kd.R_drewN | apply Kd.R_drew)); exact HO_6.out⟩, ⟨zB_⟩⟩
      replace H := bf_ c8 H; obtain ⟨rfl, H⟩ := H
      replace H := gd_ H; obtain ⟨c15, H⟩ := H
      have c15b0 : decide (0 ≤ x7_1) = true := decide_eq_true c15
      clear c15
      replace H := gd_ H; obtain ⟨c16, H⟩ := H
      have c16b0 : decide (x7_1 < (x6_1.length : Int)) = true := decide_eq_true c16
      clear c16
      obtain ⟨ji17, hji17⟩ : ∃ j_ : Int, (wrap64 (x7_1 + 1)) = j_ := ⟨_, rfl⟩
      replace H : (if 0 ≤ (ji17) then (if (ji17) < (x6_1.length : Int) then (spec_leTurn.j1 k1 false x6_1 x7_1 (decide ((rd x6_1 x7_1) ≤ (rd x6_1 (ji17))))) else (none)) else (none)) = some (r1, r2) := by first | (rw [hji17] at H; exact H) | (simp only [hji17] at H ⊢; exact H)
      have hji17w : (IntKind.i64.wrap (x7_1 + 1)) = ji17 := (i64_w _).trans hji17
      replace H := gd_ H; obtain ⟨c18, H⟩ := H
      have c18b0 : decide (0 ≤ (ji17)) = true := decide_eq_true c18
      clear c18
      replace H := gd_ H; obtain ⟨c19, H⟩ := H
      have c19b0 : decide ((ji17) < (x6_1.length : Int)) = true := decide_eq_true c19
      clear c19
      have H' := Aside0.mk H
      clear H
      have p177 : 0 ≤ (x7_1 : Int) := of_decide_eq_true zS_
      have q177 : x7_1 < (x6_1.length : Int) := of_decide_eq_true zS_
      obtain ⟨ad177, e177, hx177_0⟩ := Kd.at_int (Kd.R_reads' HO_6.out).2.2 x7_1 p177 q177
      cases e177
      replace p177 := eq_true p177
      replace q177 := eq_true q177
      have p178 : 0 ≤ ((ji17) : Int) := of_decide_eq_true zS_
      have q178 : (ji17) < (x6_1.length : Int) := of_decide_eq_true zS_
      obtain ⟨ad178, e178, hx178_0⟩ := Kd.at_int (Kd.R_reads' HO_6.out).2.2 (ji17) p178 q178
      obtain rfl : ad177 = ad178 := (by injection e178)
      replace p178 := eq_true p178
      replace q178 := eq_true q178
      go_wp2
      repeat (go_quiet (fail); try go_wp2)
      go_meet
      case rel => exact ⟨_, (decide ((rd x6_1 x7_1) ≤ (rd x6_1 (ji17)))), (by first | rfl | (simp; done) | (simp only [← hji17] <;> (first | rfl | simp)) | (simp [*]; done)), H', ⟨by have := HK1.out; first | omega | exact Nat.le_refl _⟩, ⟨by (try simp only [hl6_1]); (with_reducible repeat (first | apply Kd.R_alloc | apply Kd.R_drewN | apply Kd.R_drew)); exact HO_6.out⟩, ⟨zB_⟩⟩
     case rest =>
      clear HC7
      (try clear c1);(try clear p1);(try clear q1);(try clear hx1);(try clear p2);(try clear c3);(try clear c6);(try clear c6b0);(try clear p6);(try clear c8);(try clear c9);(try clear c9b0);(try clear c10);(try clear c10b0);(try clear c12);(try clear c12b0);(try clear c13);(try clear c13b0);(try clear c14);(try clear c14b0);(try clear c15);(try clear c15b0);(try clear c16);(try clear c16b0);(try clear p17);(try clear q17);(try clear hx17);(try clear c18);(try clear c18b0);(try clear c19);(try clear c19b0);(try clear hx175_0);(try clear hx176_0);(try clear hx177_0);(try clear hx178_0);(try clear p175);(try clear p176);(try clear p177);(try clear p178);(try clear p2);(try clear q175);(try clear q176);(try clear q177);(try clear q178)
      obtain ⟨kq, x50_6, rfl, HA, HJ6, HO_6, HB⟩ := hcut
      cases kq with
      | zero => exact absurd HA.out (by simp [spec_leTurn.j1])
      | succ kj6 =>
       have H := HA.out
       clear HA
       simp only [spec_leTurn.j1] at H
       by_cases c20 : x50_6 = true
       · subst c20
         rw [if_pos rfl] at H
         have H' := Aside0.mk H
         clear H
         go_wp2
         repeat (go_quiet (fail); try go_wp2)
         (try simp only [← hl6_1])
         go_roundg kj6
         case measure => have := HK1.out; have := HJ6.out; omega
         case rel => exact ⟨(x6_1), (wrap64 (x7_1 - 1)), zV_, H', ⟨by have := HK1.out; have := HJ6.out; omega⟩, ⟨by (try simp only [hl6_1]); (with_reducible repeat (first | apply Kd.R_alloc | apply Kd.R_drewN | apply Kd.R_drew)); exact HO_6.out⟩, ⟨zB_⟩⟩
       replace H := bf_ c20 H; obtain ⟨rfl, H⟩ := H
       have HC21 := Aside0.mk H
       clear H
       go_upto_block 2 with (fail)
       repeat (go_quiet (fail); go_upto_block 2 with (fail))
       go_cut [8] (fun v8 wc => ∃ (kq : Nat) (x8_20 : Int), v8 = .int .i64 x8_20 ∧ Aside0 (spec_leTurn.j3 kq x6_1 x7_1 x8_20 = some (r1, r2)) ∧ Aside0 (kq ≤ kj6) ∧ Aside0 (Kd.R (Kd.int .i64) 3 wc w.heap.size (fun _ => True) (.slice Ao5 x6_1.length co5) x6_1) ∧ Aside0 (Below w.heap.size w wc))
       case first =>
        have H := HC21.out
        clear HC21
        have H' := Aside0.mk H
        clear H
        go_wp2
        repeat (go_quiet (fail); try go_wp2)
        go_loopg [8] kj6 (fun kq v8 w' => ∃ (x8_3 : Int), v8 = .int .i64 x8_3 ∧ Aside0 (spec_leTurn.l1 kq a1 x6_1 x7_1 x8_3 = some (r1, r2)) ∧ Aside0 (kq ≤ kj6) ∧ Aside0 (Kd.R (Kd.int .i64) 3 w' w.heap.size (fun _ => True) (.slice Ao5 x6_1.length co5) x6_1) ∧ Aside0 (Below w.heap.size w w'))
        case atStart => exact ⟨(wrap64 ((x6_1.length : Int) - 1)), zV_, H', ⟨Nat.le_refl _⟩, ⟨by (try simp only [hl6_1]); (with_reducible repeat (first | apply Kd.R_alloc | apply Kd.R_drewN | apply Kd.R_drew)); exact HO_6.out⟩, ⟨zB_⟩⟩
        case round =>
         clear H'
         (try clear c1);(try clear p1);(try clear q1);(try clear hx1);(try clear c2);(try clear p2);(try clear c3);(try clear c6);(try clear c6b0);(try clear p6);(try clear c8);(try clear c9);(try clear c9b0);(try clear c10);(try clear c10b0);(try clear c12);(try clear c12b0);(try clear c13);(try clear c13b0);(try clear c14);(try clear c14b0);(try clear c15);(try clear c15b0);(try clear c16);(try clear c16b0);(try clear p17);(try clear q17);(try clear hx17);(try clear c18);(try clear c18b0);(try clear c19);(try clear c19b0);(try clear c20);(try clear hx175_0);(try clear hx176_0);(try clear hx177_0);(try clear hx178_0);(try clear p1);(try clear p17);(try clear p175);(try clear p176);(try clear p177);(try clear p178);(try clear p2);(try clear p6);(try clear q1);(try clear q17);(try clear q175);(try clear q176);(try clear q177);(try clear q178)
         obtain ⟨x8_3, rfl, HA, HK3, HO_6, HB⟩ := hrel
         cases gk with
         | zero => exact absurd HA.out (by simp [spec_leTurn.l1])
         | succ k3 =>
          have H := HA.out
          clear HA
          simp only [spec_leTurn.l1] at H
          by_cases c22 : a1 = true
          · subst c22
            rw [if_pos rfl] at H
            replace H := gd_ H; obtain ⟨c23, H⟩ := H
            have c23b0 : decide (0 ≤ x8_3) = true := decide_eq_true c23
            clear c23
            (first | rw [c23b0] | (simp only [i64_w, i32_w]; rw [c23b0]) | skip)
            replace H := gd_ H; obtain ⟨c24, H⟩ := H
            have c24b0 : decide (x8_3 < (x6_1.length : Int)) = true := decide_eq_true c24
            clear c24
            replace H := gd_ H; obtain ⟨c25, H⟩ := H
            have c25b0 : decide (0 ≤ x7_1) = true := decide_eq_true c25
            clear c25
            replace H := gd_ H; obtain ⟨c26, H⟩ := H
            have c26b0 : decide (x7_1 < (x6_1.length : Int)) = true := decide_eq_true c26
            clear c26
            by_cases c27 : (rd x6_1 x8_3) ≤ (rd x6_1 x7_1)
            · rw [if_pos c27] at H
              have c27b0 := decide_eq_true c27
              clear c27
              have H' := Aside0.mk H
              clear H
              have p179 : 0 ≤ (x8_3 : Int) := of_decide_eq_true zS_
              have q179 : x8_3 < (x6_1.length : Int) := of_decide_eq_true zS_
              obtain ⟨ad179, e179, hx179_0⟩ := Kd.at_int (Kd.R_reads' HO_6.out).2.2 x8_3 p179 q179
              cases e179
              replace p179 := eq_true p179
              replace q179 := eq_true q179
              have p180 : 0 ≤ (x7_1 : Int) := of_decide_eq_true zS_
              have q180 : x7_1 < (x6_1.length : Int) := of_decide_eq_true zS_
              obtain ⟨ad180, e180, hx180_0⟩ := Kd.at_int (Kd.R_reads' HO_6.out).2.2 x7_1 p180 q180
              obtain rfl : ad179 = ad180 := (by injection e180)
              replace p180 := eq_true p180
              replace q180 := eq_true q180
              go_wp2
              repeat (go_quiet (fail); try go_wp2)
              go_roundg k3
              case measure => have := HK1.out; have := HJ6.out; have := HK3.out; omega
              case rel => exact ⟨(wrap64 (x8_3 - 1)), zV_, H', ⟨by have := HK1.out; have := HJ6.out; have := HK3.out; omega⟩, ⟨by (try simp only [hl6_1]); (with_reducible repeat (first | apply Kd.R_alloc | apply Kd.R_drewN | apply Kd.R_drew)); exact HO_6.out⟩, ⟨zB_⟩⟩
            rw [if_neg c27] at H
            have c27b0 := decide_eq_false c27
            clear c27
            have H' := Aside0.mk H
            clear H
            have p179 : 0 ≤ (x8_3 : Int) := of_decide_eq_true zS_
            have q179 : x8_3 < (x6_1.length : Int) := of_decide_eq_true zS_
            obtain ⟨ad179, e179, hx179_0⟩ := Kd.at_int (Kd.R_reads' HO_6.out).2.2 x8_3 p179 q179
            cases e179
            replace p179 := eq_true p179
            replace q179 := eq_true q179
            have p180 : 0 ≤ (x7_1 : Int) := of_decide_eq_true zS_
            have q180 : x7_1 < (x6_1.length : Int) := of_decide_eq_true zS_
            obtain ⟨ad180, e180, hx180_0⟩ := Kd.at_int (Kd.R_reads' HO_6.out).2.2 x7_1 p180 q180
            obtain rfl : ad179 = ad180 := (by injection e180)
            replace p180 := eq_true p180
            replace q180 := eq_true q180
            go_wp2
            repeat (go_quiet (fail); try go_wp2)
            go_meet
            case rel => exact ⟨_, (x8_3), zV_, H', ⟨by have := HK1.out; have := HJ6.out; have := HK3.out; first | omega | exact Nat.le_refl _⟩, ⟨by (try simp only [hl6_1]); (with_reducible repeat (first | apply Kd.R_alloc | apply Kd.R_drewN | apply Kd.R_drew)); exact HO_6.out⟩, ⟨zB_⟩⟩
          replace H := bf_ c22 H; obtain ⟨rfl, H⟩ := H
          replace H := gd_ H; obtain ⟨c28, H⟩ := H
          have c28b0 : decide (0 ≤ x8_3) = true := decide_eq_true c28
          clear c28
          replace H := gd_ H; obtain ⟨c29, H⟩ := H
          have c29b0 : decide (x8_3 < (x6_1.length : Int)) = true := decide_eq_true c29
          clear c29
          replace H := gd_ H; obtain ⟨c30, H⟩ := H
          have c30b0 : decide (0 ≤ x7_1) = true := decide_eq_true c30
          clear c30
          replace H := gd_ H; obtain ⟨c31, H⟩ := H
          have c31b0 : decide (x7_1 < (x6_1.length : Int)) = true := decide_eq_true c31
          clear c31
          by_cases c32 : (rd x6_1 x8_3) ≥ (rd x6_1 x7_1)
          · rw [if_pos c32] at H
            have c32b0 : decide ((rd x6_1 x7_1) ≤ (rd x6_1 x8_3)) = true := decide_eq_true c32
            clear c32
            have H' := Aside0.mk H
            clear H
            have p181 : 0 ≤ (x8_3 : Int) := of_decide_eq_true zS_
            have q181 : x8_3 < (x6_1.length : Int) := of_decide_eq_true zS_
            obtain ⟨ad181, e181, hx181_0⟩ := Kd.at_int (Kd.R_reads' HO_6.out).2.2 x8_3 p181 q181
            cases e181
            replace p181 := eq_true p181
            replace q181 := eq_true q181
            have p182 : 0 ≤ (x7_1 : Int) := of_decide_eq_true zS_
            have q182 : x7_1 < (x6_1.length : Int) := of_decide_eq_true zS_
            obtain ⟨ad182, e182, hx182_0⟩ := Kd.at_int (Kd.R_reads' HO_6.out).2.2 x7_1 p182 q182
            obtain rfl : ad181 = ad182 := (by injection e182)
            replace p182 := eq_true p182
            replace q182 := eq_true q182
            go_wp2
            repeat (go_quiet (fail); try go_wp2)
            go_roundg k3
            case measure => have := HK1.out; have := HJ6.out; have := HK3.out; omega
            case rel => exact ⟨(wrap64 (x8_3 - 1)), zV_, H', ⟨by have := HK1.out; have := HJ6.out; have := HK3.out; omega⟩, ⟨by (try simp only [hl6_1]); (with_reducible repeat (first | apply Kd.R_alloc | apply Kd.R_drewN | apply Kd.R_drew)); exact HO_6.out⟩, ⟨zB_⟩⟩
          rw [if_neg c32] at H
          have c32b0 : decide ((rd x6_1 x7_1) ≤ (rd x6_1 x8_3)) = false := decide_eq_false c32
          clear c32
          have H' := Aside0.mk H
          clear H
          have p181 : 0 ≤ (x8_3 : Int) := of_decide_eq_true zS_
          have q181 : x8_3 < (x6_1.length : Int) := of_decide_eq_true zS_
          obtain ⟨ad181, e181, hx181_0⟩ := Kd.at_int (Kd.R_reads' HO_6.out).2.2 x8_3 p181 q181
          cases e181
          replace p181 := eq_true p181
          replace q181 := eq_true q181
          have p182 : 0 ≤ (x7_1 : Int) := of_decide_eq_true zS_
          have q182 : x7_1 < (x6_1.length : Int) := of_decide_eq_true zS_
          obtain ⟨ad182, e182, hx182_0⟩ := Kd.at_int (Kd.R_reads' HO_6.out).2.2 x7_1 p182 q182
          obtain rfl : ad181 = ad182 := (by injection e182)
          replace p182 := eq_true p182
          replace q182 := eq_true q182
          go_wp2
          repeat (go_quiet (fail); try go_wp2)
          go_meet
          case rel => exact ⟨_, (x8_3), zV_, H', ⟨by have := HK1.out; have := HJ6.out; have := HK3.out; first | omega | exact Nat.le_refl _⟩, ⟨by (try simp only [hl6_1]); (with_reducible repeat (first | apply Kd.R_alloc | apply Kd.R_drewN | apply Kd.R_drew)); exact HO_6.out⟩, ⟨zB_⟩⟩
       case rest =>
        clear HC21
        (try clear c1);(try clear p1);(try clear q1);(try clear hx1);(try clear c2);(try clear p2);(try clear c3);(try clear c6);(try clear c6b0);(try clear p6);(try clear c8);(try clear c9);(try clear c9b0);(try clear c10);(try clear c10b0);(try clear c12);(try clear c12b0);(try clear c13);(try clear c13b0);(try clear c14);(try clear c14b0);(try clear c15);(try clear c15b0);(try clear c16);(try clear c16b0);(try clear p17);(try clear q17);(try clear hx17);(try clear c18);(try clear c18b0);(try clear p18);(try clear q18);(try clear hx18);(try clear c19);(try clear c19b0);(try clear c20);(try clear c22);(try clear c23);(try clear c23b0);(try clear c24);(try clear c24b0);(try clear c25);(try clear c25b0);(try clear c26);(try clear c26b0);(try clear c27);(try clear c27b0);(try clear c28);(try clear c28b0);(try clear c29);(try clear c29b0);(try clear c30);(try clear c30b0);(try clear c31);(try clear c31b0);(try clear c32);(try clear c32b0);(try clear hx175_0);(try clear hx176_0);(try clear hx177_0);(try clear hx178_0);(try clear hx179_0);(try clear hx180_0);(try clear hx181_0);(try clear hx182_0);(try clear p1);(try clear p17);(try clear p175);(try clear p176);(try clear p177);(try clear p178);(try clear p179);(try clear p180);(try clear p181);(try clear p182);(try clear p2);(try clear p6);(try clear q1);(try clear q17);(try clear q175);(try clear q176);(try clear q177);(try clear q178);(try clear q179);(try clear q180);(try clear q181);(try clear q182)
        obtain ⟨kq, x8_20, rfl, HA, HJ20, HO_6, HB⟩ := hcut
        cases kq with
        | zero => exact absurd HA.out (by simp [spec_leTurn.j3])
        | succ kj20 =>
         have H := HA.out
         clear HA
         simp only [spec_leTurn.j3] at H
         replace H := gd_ H; obtain ⟨c33, H⟩ := H
         have c33b0 : decide (0 ≤ x7_1) = true := decide_eq_true c33
         clear c33
         replace H := gd_ H; obtain ⟨c34, H⟩ := H
         have c34b0 : decide (x7_1 < (x6_1.length : Int)) = true := decide_eq_true c34
         clear c34
         replace H := gd_ H; obtain ⟨c35, H⟩ := H
         have c35b0 : decide (0 ≤ x8_20) = true := decide_eq_true c35
         clear c35
         replace H := gd_ H; obtain ⟨c36, H⟩ := H
         have c36b0 : decide (x8_20 < (x6_1.length : Int)) = true := decide_eq_true c36
         clear c36
         obtain ⟨y185, hy185⟩ : ∃ y_ : List Int, y_ = (x6_1.set (x7_1 : Int).toNat (rd x6_1 x8_20)) := ⟨_, rfl⟩
         replace H : (spec_leTurn.l2 kj20 (y185.set (x8_20 : Int).toNat (rd x6_1 x7_1)) (wrap64 (x7_1 + 1)) (wrap64 ((x6_1.length : Int) - 1))) = some (r1, r2) := by first | (rw [hy185]; with_reducible exact H) | (have H2_ := (Option.bind_some _ _).symm.trans H; rw [hy185]; with_reducible exact H2_) | (have H2_ := (Option.bind_some _ _).symm.trans H; with_reducible exact H2_) | with_reducible exact H | (rw [hy185]; exact H) | exact H
         have Ny185 := Aside0.mk hy185
         clear hy185
         obtain ⟨y186, hy186⟩ : ∃ y_ : List Int, y_ = (y185.set (x8_20 : Int).toNat (rd x6_1 x7_1)) := ⟨_, rfl⟩
         replace H : (spec_leTurn.l2 kj20 y186 (wrap64 (x7_1 + 1)) (wrap64 ((x6_1.length : Int) - 1))) = some (r1, r2) := by first | (rw [hy186]; with_reducible exact H) | (have H2_ := (Option.bind_some _ _).symm.trans H; rw [hy186]; with_reducible exact H2_) | (have H2_ := (Option.bind_some _ _).symm.trans H; with_reducible exact H2_) | with_reducible exact H | (rw [hy186]; exact H) | exact H
         have Ny186 := Aside0.mk hy186
         clear hy186
         have H' := Aside0.mk H
         clear H
         have p183 : 0 ≤ (x7_1 : Int) := of_decide_eq_true zS_
         have q183 : x7_1 < (x6_1.length : Int) := of_decide_eq_true zS_
         obtain ⟨ad183, e183, hx183_0⟩ := Kd.at_int (Kd.R_reads' HO_6.out).2.2 x7_1 p183 q183
         cases e183
         replace p183 := eq_true p183
         replace q183 := eq_true q183
         have p184 : 0 ≤ (x8_20 : Int) := of_decide_eq_true zS_
         have q184 : x8_20 < (x6_1.length : Int) := of_decide_eq_true zS_
         obtain ⟨ad184, e184, hx184_0⟩ := Kd.at_int (Kd.R_reads' HO_6.out).2.2 x8_20 p184 q184
         obtain rfl : ad183 = ad184 := (by injection e184)
         replace p184 := eq_true p184
         replace q184 := eq_true q184
         have p37 : 0 ≤ (x7_1 : Int) := of_decide_eq_true zS_
         have q37 : (x7_1 : Int) < ((x6_1.length : Int) : Int) := of_decide_eq_true zS_
         obtain ⟨go37, co37, eo37, gb37, gl37, cl37, HG37⟩ := Kd.R_form HO_6.out (by omega)
         (first | cases eo37 | (injection eo37 with ea_ en_ ec_; (first | subst ea_ | (injection ea_ with ea_; subst ea_)); subst ec_; clear en_))
         have GB37 := Aside0.mk gb37
         have GG37 := Aside0.mk HG37
         clear gb37 gl37 HG37
         (first | simp only [add_plain] at hx183_0 | skip)
         (first | simp only [add_plain] at hx184_0 | skip)
         obtain ⟨hx37_0, hf37_0⟩ := Kd.R_celln 0 HO_6.out (x7_1 : Int) p37 q37
         replace p37 := eq_true p37
         replace q37 := eq_true q37
         have HP39 := Kd.R_putg HO_6.out (x7_1 : Int) (rd x6_1 x8_20)
         go_wp2_with (first | ((with_reducible refine gate_store (t := 3) (p := 93) rfl ?_); (try (rw [drewN_self wc]; generalize hq_ : World.drewN wc _ = wc; replace HO_6 := Aside0.mk (Kd.R_at hq_ HO_6.out); replace HB := Aside0.mk (below_at hq_ HB.out); clear hq_; (try (have HP39 := Kd.R_putg HO_6.out (x7_1 : Int) (rd x6_1 x8_20))))); refine store_event (t := 3) (p := 93) (v := ?vo_w40) (w1 := (wc.setCell ⟨go37, (x7_1 : Int).toNat, none⟩ (.int .i64 (rd x6_1 x8_20)))) ?hg ?ho ?hn ?hr ?_; (case ho => rfl); (case hg => rfl); (case hn => rfl); (case hr => first | (go_simp; done) | (go_simp; rfl)); intro w40 hw; have hg : wc.grownBy w40 (some go37) := (by rw [hw]; exact HP39.2); have hp_ : Kd.R (Kd.int .i64) 3 w40 w.heap.size (fun _ => True) (.slice (some ⟨go37, 0, none⟩) x6_1.length co5) y185 := (by rw [hw, Ny185.out]; exact HP39.1); clear HP39; replace HO_6 := Aside0.mk (hp_); replace HB := Aside0.mk ((by rw [hw]; exact below_set (HB.out) GB37.out : Below w.heap.size w w40)); clear hg hw hp_; have p38 : 0 ≤ (x8_20 : Int) := of_decide_eq_true zS_; have q38 : (x8_20 : Int) < ((x6_1.length : Int) : Int) := of_decide_eq_true zS_; obtain ⟨hx38_0, hf38_0⟩ := Kd.R_celln 0 HO_6.out (x8_20 : Int) p38 q38; replace p38 := eq_true p38; replace q38 := eq_true q38; obtain ⟨hy41_, hz41_⟩ := Kd.R_celln 0 HO_6.out (x8_20 : Int) (of_decide_eq_true zS_) (of_decide_eq_true zS_); have HP41 := Kd.R_putg HO_6.out (x8_20 : Int) (rd x6_1 x7_1)) | ((with_reducible refine gate_store (t := 3) (p := 97) rfl ?_); (try (rw [drewN_self w40]; generalize hq_ : World.drewN w40 _ = w40; replace HO_6 := Aside0.mk (Kd.R_at hq_ HO_6.out); replace HB := Aside0.mk (below_at hq_ HB.out); clear hq_; (try (obtain ⟨hy41_, hz41_⟩ := Kd.R_celln 0 HO_6.out (x8_20 : Int) (of_decide_eq_true zS_) (of_decide_eq_true zS_))); (try (have HP41 := Kd.R_putg HO_6.out (x8_20 : Int) (rd x6_1 x7_1))))); refine store_event (t := 3) (p := 97) (v := ?vo_w42) (w1 := (w40.setCell ⟨go37, (x8_20 : Int).toNat, none⟩ (.int .i64 (rd x6_1 x7_1)))) ?hg ?ho ?hn ?hr ?_; (case ho => rfl); (case hg => rfl); (case hn => rfl); (case hr => first | (go_simp; done) | (go_simp; rfl)); intro w42 hw; have hg : w40.grownBy w42 (some go37) := (by rw [hw]; exact HP41.2); have hp_ : Kd.R (Kd.int .i64) 3 w42 w.heap.size (fun _ => True) (.slice (some ⟨go37, 0, none⟩) x6_1.length co5) y186 := (by rw [hw, Ny186.out]; exact HP41.1); clear HP41; replace HO_6 := Aside0.mk (hp_); replace HB := Aside0.mk ((by rw [hw]; exact below_set (HB.out) GB37.out : Below w.heap.size w w42)); clear hg hw hp_))
         repeat (go_quiet (fail); try go_wp2_with (first | ((with_reducible refine gate_store (t := 3) (p := 93) rfl ?_); (try (rw [drewN_self wc]; generalize hq_ : World.drewN wc _ = wc; replace HO_6 := Aside0.mk (Kd.R_at hq_ HO_6.out); replace HB := Aside0.mk (below_at hq_ HB.out); clear hq_; (try (have HP39 := Kd.R_putg HO_6.out (x7_1 : Int) (rd x6_1 x8_20))))); refine store_event (t := 3) (p := 93) (v := ?vo_w40) (w1 := (wc.setCell ⟨go37, (x7_1 : Int).toNat, none⟩ (.int .i64 (rd x6_1 x8_20)))) ?hg ?ho ?hn ?hr ?_; (case ho => rfl); (case hg => rfl); (case hn => rfl); (case hr => first | (go_simp; done) | (go_simp; rfl)); intro w40 hw; have hg : wc.grownBy w40 (some go37) := (by rw [hw]; exact HP39.2); have hp_ : Kd.R (Kd.int .i64) 3 w40 w.heap.size (fun _ => True) (.slice (some ⟨go37, 0, none⟩) x6_1.length co5) y185 := (by rw [hw, Ny185.out]; exact HP39.1); clear HP39; replace HO_6 := Aside0.mk (hp_); replace HB := Aside0.mk ((by rw [hw]; exact below_set (HB.out) GB37.out : Below w.heap.size w w40)); clear hg hw hp_; have p38 : 0 ≤ (x8_20 : Int) := of_decide_eq_true zS_; have q38 : (x8_20 : Int) < ((x6_1.length : Int) : Int) := of_decide_eq_true zS_; obtain ⟨hx38_0, hf38_0⟩ := Kd.R_celln 0 HO_6.out (x8_20 : Int) p38 q38; replace p38 := eq_true p38; replace q38 := eq_true q38; obtain ⟨hy41_, hz41_⟩ := Kd.R_celln 0 HO_6.out (x8_20 : Int) (of_decide_eq_true zS_) (of_decide_eq_true zS_); have HP41 := Kd.R_putg HO_6.out (x8_20 : Int) (rd x6_1 x7_1)) | ((with_reducible refine gate_store (t := 3) (p := 97) rfl ?_); (try (rw [drewN_self w40]; generalize hq_ : World.drewN w40 _ = w40; replace HO_6 := Aside0.mk (Kd.R_at hq_ HO_6.out); replace HB := Aside0.mk (below_at hq_ HB.out); clear hq_; (try (obtain ⟨hy41_, hz41_⟩ := Kd.R_celln 0 HO_6.out (x8_20 : Int) (of_decide_eq_true zS_) (of_decide_eq_true zS_))); (try (have HP41 := Kd.R_putg HO_6.out (x8_20 : Int) (rd x6_1 x7_1))))); refine store_event (t := 3) (p := 97) (v := ?vo_w42) (w1 := (w40.setCell ⟨go37, (x8_20 : Int).toNat, none⟩ (.int .i64 (rd x6_1 x7_1)))) ?hg ?ho ?hn ?hr ?_; (case ho => rfl); (case hg => rfl); (case hn => rfl); (case hr => first | (go_simp; done) | (go_simp; rfl)); intro w42 hw; have hg : w40.grownBy w42 (some go37) := (by rw [hw]; exact HP41.2); have hp_ : Kd.R (Kd.int .i64) 3 w42 w.heap.size (fun _ => True) (.slice (some ⟨go37, 0, none⟩) x6_1.length co5) y186 := (by rw [hw, Ny186.out]; exact HP41.1); clear HP41; replace HO_6 := Aside0.mk (hp_); replace HB := Aside0.mk ((by rw [hw]; exact below_set (HB.out) GB37.out : Below w.heap.size w w42)); clear hg hw hp_)))
         go_loopg [10, 11] kj20 (fun kq v10 v11 w' => ∃ (x6_4 : List Int) (x10_4 : Int) (x11_4 : Int), v10 = .int .i64 x10_4 ∧ v11 = .int .i64 x11_4 ∧ Aside0 (spec_leTurn.l2 kq x6_4 x10_4 x11_4 = some (r1, r2)) ∧ Aside0 (kq ≤ kj20) ∧ Aside0 (Kd.R (Kd.int .i64) 3 w' w.heap.size (fun _ => True) (.slice (some ⟨go37, 0, none⟩) x6_1.length co5) x6_4) ∧ Aside0 (Below w.heap.size w w'))
         case atStart => exact ⟨(y186), (wrap64 (x7_1 + 1)), (wrap64 ((x6_1.length : Int) - 1)), zV_, zV_, H', ⟨Nat.le_refl _⟩, ⟨by (try simp only [hl6_1]); (with_reducible repeat (first | apply Kd.R_alloc | apply Kd.R_drewN | apply Kd.R_drew)); exact HO_6.out⟩, ⟨zB_⟩⟩
         case round =>
          clear H'
          (try clear c1);(try clear p1);(try clear q1);(try clear hx1);(try clear c2);(try clear p2);(try clear c3);(try clear p3);(try clear q3);(try clear hx3);(try clear hf3);(try clear c6);(try clear c6b0);(try clear p6);(try clear c8);(try clear c9);(try clear c9b0);(try clear c10);(try clear c10b0);(try clear c12);(try clear c12b0);(try clear c13);(try clear c13b0);(try clear c14);(try clear c14b0);(try clear c15);(try clear c15b0);(try clear c16);(try clear c16b0);(try clear p17);(try clear q17);(try clear hx17);(try clear c18);(try clear c18b0);(try clear p18);(try clear q18);(try clear hx18);(try clear c19);(try clear c19b0);(try clear c20);(try clear c22);(try clear c23);(try clear c23b0);(try clear c24);(try clear c24b0);(try clear c25);(try clear c25b0);(try clear c26);(try clear c26b0);(try clear c27);(try clear c27b0);(try clear c28);(try clear c28b0);(try clear c29);(try clear c29b0);(try clear c30);(try clear c30b0);(try clear c31);(try clear c31b0);(try clear c32);(try clear c32b0);(try clear c33);(try clear c33b0);(try clear c34);(try clear c34b0);(try clear c35);(try clear c35b0);(try clear c36);(try clear c36b0);(try clear p37);(try clear q37);(try clear hx37);(try clear hf37);(try clear p38);(try clear q38);(try clear hx38);(try clear hf38);(try clear c39);(try clear hx175_0);(try clear hx176_0);(try clear hx177_0);(try clear hx178_0);(try clear hx179_0);(try clear hx180_0);(try clear hx181_0);(try clear hx182_0);(try clear hx183_0);(try clear hx184_0);(try clear hx37_0);(try clear hx38_0);(try clear p1);(try clear p17);(try clear p175);(try clear p176);(try clear p177);(try clear p178);(try clear p179);(try clear p18);(try clear p180);(try clear p181);(try clear p182);(try clear p183);(try clear p184);(try clear p2);(try clear p37);(try clear p38);(try clear p6);(try clear q1);(try clear q17);(try clear q175);(try clear q176);(try clear q177);(try clear q178);(try clear q179);(try clear q18);(try clear q180);(try clear q181);(try clear q182);(try clear q183);(try clear q184);(try clear q37);(try clear q38)
          obtain ⟨x6_4, x10_4, x11_4, rfl, rfl, HA, HK4, HO_6, HB⟩ := hrel
          have hl6_4 := (Kd.R_reads' HO_6.out).1
          rw [hl6_4] at HO_6
          (try simp only [hl6_4])
          cases gk with
          | zero => exact absurd HA.out (by simp [spec_leTurn.l2])
          | succ k4 =>
           have H := HA.out
           clear HA
           simp only [spec_leTurn.l2] at H
           by_cases c43 : x10_4 < x11_4
           · rw [if_pos c43] at H
             have c43b0 := decide_eq_true c43
             clear c43
             replace H := gd_ H; obtain ⟨c44, H⟩ := H
             have c44b0 : decide (0 ≤ x10_4) = true := decide_eq_true c44
             clear c44
             replace H := gd_ H; obtain ⟨c45, H⟩ := H
             have c45b0 : decide (x10_4 < (x6_4.length : Int)) = true := decide_eq_true c45
             clear c45
             replace H := gd_ H; obtain ⟨c46, H⟩ := H
             have c46b0 : decide (0 ≤ x11_4) = true := decide_eq_true c46
             clear c46
             replace H := gd_ H; obtain ⟨c47, H⟩ := H
             have c47b0 : decide (x11_4 < (x6_4.length : Int)) = true := decide_eq_true c47
             clear c47
             obtain ⟨y189, hy189⟩ : ∃ y_ : List Int, y_ = (x6_4.set (x10_4 : Int).toNat (rd x6_4 x11_4)) := ⟨_, rfl⟩
             replace H : (spec_leTurn.l2 k4 (y189.set (x11_4 : Int).toNat (rd x6_4 x10_4)) (wrap64 (x10_4 + 1)) (wrap64 (x11_4 - 1))) = some (r1, r2) := by first | (rw [hy189]; with_reducible exact H) | (have H2_ := (Option.bind_some _ _).symm.trans H; rw [hy189]; with_reducible exact H2_) | (have H2_ := (Option.bind_some _ _).symm.trans H; with_reducible exact H2_) | with_reducible exact H | (rw [hy189]; exact H) | exact H
             have Ny189 := Aside0.mk hy189
             clear hy189
             obtain ⟨y190, hy190⟩ : ∃ y_ : List Int, y_ = (y189.set (x11_4 : Int).toNat (rd x6_4 x10_4)) := ⟨_, rfl⟩
             replace H : (spec_leTurn.l2 k4 y190 (wrap64 (x10_4 + 1)) (wrap64 (x11_4 - 1))) = some (r1, r2) := by first | (rw [hy190]; with_reducible exact H) | (have H2_ := (Option.bind_some _ _).symm.trans H; rw [hy190]; with_reducible exact H2_) | (have H2_ := (Option.bind_some _ _).symm.trans H; with_reducible exact H2_) | with_reducible exact H | (rw [hy190]; exact H) | exact H
             have Ny190 := Aside0.mk hy190
             clear hy190
             have H' := Aside0.mk H
             clear H
             have p187 : 0 ≤ (x10_4 : Int) := of_decide_eq_true zS_
             have q187 : x10_4 < (x6_4.length : Int) := of_decide_eq_true zS_
             obtain ⟨ad187, e187, hx187_0⟩ := Kd.at_int (Kd.R_reads' HO_6.out).2.2 x10_4 p187 q187
             obtain rfl : (⟨go37, 0, none⟩ : Addr) = ad187 := (by injection e187)
             (first | simp only [add_plain] at hx187_0 | simp only [add_at] at hx187_0 | simp only [Addr.add, Nat.zero_add] at hx187_0 | skip)
             replace p187 := eq_true p187
             replace q187 := eq_true q187
             have p188 : 0 ≤ (x11_4 : Int) := of_decide_eq_true zS_
             have q188 : x11_4 < (x6_4.length : Int) := of_decide_eq_true zS_
             obtain ⟨ad188, e188, hx188_0⟩ := Kd.at_int (Kd.R_reads' HO_6.out).2.2 x11_4 p188 q188
             obtain rfl : (⟨go37, 0, none⟩ : Addr) = ad188 := (by injection e188)
             (first | simp only [add_plain] at hx188_0 | simp only [add_at] at hx188_0 | simp only [Addr.add, Nat.zero_add] at hx188_0 | skip)
             replace p188 := eq_true p188
             replace q188 := eq_true q188
             have p48 : 0 ≤ (x10_4 : Int) := of_decide_eq_true zS_
             have q48 : (x10_4 : Int) < ((x6_4.length : Int) : Int) := of_decide_eq_true zS_
             obtain ⟨hx48_0, hf48_0⟩ := Kd.R_celln 0 HO_6.out (x10_4 : Int) p48 q48
             replace p48 := eq_true p48
             replace q48 := eq_true q48
             have HP50 := Kd.R_putg HO_6.out (x10_4 : Int) (rd x6_4 x11_4)
             go_wp2_with (first | ((with_reducible refine gate_store (t := 3) (p := 116) rfl ?_); (try (rw [drewN_self wr]; generalize hq_ : World.drewN wr _ = wr; replace HO_6 := Aside0.mk (Kd.R_at hq_ HO_6.out); replace HB := Aside0.mk (below_at hq_ HB.out); clear hq_; (try (have HP50 := Kd.R_putg HO_6.out (x10_4 : Int) (rd x6_4 x11_4))))); refine store_event (t := 3) (p := 116) (v := ?vo_w51) (w1 := (wr.setCell ⟨go37, (x10_4 : Int).toNat, none⟩ (.int .i64 (rd x6_4 x11_4)))) ?hg ?ho ?hn ?hr ?_; (case ho => rfl); (case hg => rfl); (case hn => rfl); (case hr => first | (go_simp; done) | (go_simp; rfl)); intro w51 hw; have hg : wr.grownBy w51 (some go37) := (by rw [hw]; exact HP50.2); have hp_ : Kd.R (Kd.int .i64) 3 w51 w.heap.size (fun _ => True) (.slice (some ⟨go37, 0, none⟩) x6_4.length co5) y189 := (by rw [hw, Ny189.out]; exact HP50.1); clear HP50; replace HO_6 := Aside0.mk (hp_); replace HB := Aside0.mk ((by rw [hw]; exact below_set (HB.out) GB37.out : Below w.heap.size w w51)); clear hg hw hp_; have p49 : 0 ≤ (x11_4 : Int) := of_decide_eq_true zS_; have q49 : (x11_4 : Int) < ((x6_4.length : Int) : Int) := of_decide_eq_true zS_; obtain ⟨hx49_0, hf49_0⟩ := Kd.R_celln 0 HO_6.out (x11_4 : Int) p49 q49; replace p49 := eq_true p49; replace q49 := eq_true q49; obtain ⟨hy52_, hz52_⟩ := Kd.R_celln 0 HO_6.out (x11_4 : Int) (of_decide_eq_true zS_) (of_decide_eq_true zS_); have HP52 := Kd.R_putg HO_6.out (x11_4 : Int) (rd x6_4 x10_4)) | ((with_reducible refine gate_store (t := 3) (p := 120) rfl ?_); (try (rw [drewN_self w51]; generalize hq_ : World.drewN w51 _ = w51; replace HO_6 := Aside0.mk (Kd.R_at hq_ HO_6.out); replace HB := Aside0.mk (below_at hq_ HB.out); clear hq_; (try (obtain ⟨hy52_, hz52_⟩ := Kd.R_celln 0 HO_6.out (x11_4 : Int) (of_decide_eq_true zS_) (of_decide_eq_true zS_))); (try (have HP52 := Kd.R_putg HO_6.out (x11_4 : Int) (rd x6_4 x10_4))))); refine store_event (t := 3) (p := 120) (v := ?vo_w53) (w1 := (w51.setCell ⟨go37, (x11_4 : Int).toNat, none⟩ (.int .i64 (rd x6_4 x10_4)))) ?hg ?ho ?hn ?hr ?_; (case ho => rfl); (case hg => rfl); (case hn => rfl); (case hr => first | (go_simp; done) | (go_simp; rfl)); intro w53 hw; have hg : w51.grownBy w53 (some go37) := (by rw [hw]; exact HP52.2); have hp_ : Kd.R (Kd.int .i64) 3 w53 w.heap.size (fun _ => True) (.slice (some ⟨go37, 0, none⟩) x6_4.length co5) y190 := (by rw [hw, Ny190.out]; exact HP52.1); clear HP52; replace HO_6 := Aside0.mk (hp_); replace HB := Aside0.mk ((by rw [hw]; exact below_set (HB.out) GB37.out : Below w.heap.size w w53)); clear hg hw hp_))
             repeat (go_quiet (fail); try go_wp2_with (first | ((with_reducible refine gate_store (t := 3) (p := 116) rfl ?_); (try (rw [drewN_self wr]; generalize hq_ : World.drewN wr _ = wr; replace HO_6 := Aside0.mk (Kd.R_at hq_ HO_6.out); replace HB := Aside0.mk (below_at hq_ HB.out); clear hq_; (try (have HP50 := Kd.R_putg HO_6.out (x10_4 : Int) (rd x6_4 x11_4))))); refine store_event (t := 3) (p := 116) (v := ?vo_w51) (w1 := (wr.setCell ⟨go37, (x10_4 : Int).toNat, none⟩ (.int .i64 (rd x6_4 x11_4)))) ?hg ?ho ?hn ?hr ?_; (case ho => rfl); (case hg => rfl); (case hn => rfl); (case hr => first | (go_simp; done) | (go_simp; rfl)); intro w51 hw; have hg : wr.grownBy w51 (some go37) := (by rw [hw]; exact HP50.2); have hp_ : Kd.R (Kd.int .i64) 3 w51 w.heap.size (fun _ => True) (.slice (some ⟨go37, 0, none⟩) x6_4.length co5) y189 := (by rw [hw, Ny189.out]; exact HP50.1); clear HP50; replace HO_6 := Aside0.mk (hp_); replace HB := Aside0.mk ((by rw [hw]; exact below_set (HB.out) GB37.out : Below w.heap.size w w51)); clear hg hw hp_; have p49 : 0 ≤ (x11_4 : Int) := of_decide_eq_true zS_; have q49 : (x11_4 : Int) < ((x6_4.length : Int) : Int) := of_decide_eq_true zS_; obtain ⟨hx49_0, hf49_0⟩ := Kd.R_celln 0 HO_6.out (x11_4 : Int) p49 q49; replace p49 := eq_true p49; replace q49 := eq_true q49; obtain ⟨hy52_, hz52_⟩ := Kd.R_celln 0 HO_6.out (x11_4 : Int) (of_decide_eq_true zS_) (of_decide_eq_true zS_); have HP52 := Kd.R_putg HO_6.out (x11_4 : Int) (rd x6_4 x10_4)) | ((with_reducible refine gate_store (t := 3) (p := 120) rfl ?_); (try (rw [drewN_self w51]; generalize hq_ : World.drewN w51 _ = w51; replace HO_6 := Aside0.mk (Kd.R_at hq_ HO_6.out); replace HB := Aside0.mk (below_at hq_ HB.out); clear hq_; (try (obtain ⟨hy52_, hz52_⟩ := Kd.R_celln 0 HO_6.out (x11_4 : Int) (of_decide_eq_true zS_) (of_decide_eq_true zS_))); (try (have HP52 := Kd.R_putg HO_6.out (x11_4 : Int) (rd x6_4 x10_4))))); refine store_event (t := 3) (p := 120) (v := ?vo_w53) (w1 := (w51.setCell ⟨go37, (x11_4 : Int).toNat, none⟩ (.int .i64 (rd x6_4 x10_4)))) ?hg ?ho ?hn ?hr ?_; (case ho => rfl); (case hg => rfl); (case hn => rfl); (case hr => first | (go_simp; done) | (go_simp; rfl)); intro w53 hw; have hg : w51.grownBy w53 (some go37) := (by rw [hw]; exact HP52.2); have hp_ : Kd.R (Kd.int .i64) 3 w53 w.heap.size (fun _ => True) (.slice (some ⟨go37, 0, none⟩) x6_4.length co5) y190 := (by rw [hw, Ny190.out]; exact HP52.1); clear HP52; replace HO_6 := Aside0.mk (hp_); replace HB := Aside0.mk ((by rw [hw]; exact below_set (HB.out) GB37.out : Below w.heap.size w w53)); clear hg hw hp_)))
             (try simp only [← hl6_4])
             go_roundg k4
             case measure => have := HK1.out; have := HJ6.out; have := HJ20.out; have := HK4.out; omega
             case rel => exact ⟨(y190), (wrap64 (x10_4 + 1)), (wrap64 (x11_4 - 1)), zV_, zV_, H', ⟨by have := HK1.out; have := HJ6.out; have := HJ20.out; have := HK4.out; omega⟩, ⟨by (try simp only [hl6_1]); (try simp only [hl6_4]); (with_reducible repeat (first | apply Kd.R_alloc | apply Kd.R_drewN | apply Kd.R_drew)); exact HO_6.out⟩, ⟨zB_⟩⟩
           rw [if_neg c43] at H
           have c43b0 := decide_eq_false c43
           clear c43
           simp only [Option.some.injEq, Prod.mk.injEq] at H
           obtain ⟨rfl, rfl⟩ := H
           go_wp2
           repeat (go_quiet (fail); try go_wp2)
           go_ret2
           exact ⟨_, by first | rfl | (simp [errW_none, errW_some] <;> rfl) | (simp [*, errW_none, errW_some] <;> rfl), by (with_reducible repeat (first | apply Kd.R_alloc | apply Kd.R_drewN | apply Kd.R_drew)); exact HO_6.out, zB_⟩
   rw [if_neg c6] at H
   have c6b0 : decide (0 ≤ x7_1) = false := decide_eq_false c6
   clear c6
   simp only [Option.some.injEq, Prod.mk.injEq] at H
   obtain ⟨rfl, rfl⟩ := H
   go_wp2
   repeat (go_quiet (fail); try go_wp2)
   go_ret2
   exact ⟨_, by first | rfl | (simp [errW_none, errW_some] <;> rfl) | (simp [*, errW_none, errW_some] <;> rfl), by first | exact Kd.R_nil _ _ _ _ _ | exact Kd.N_nil _ _ _ _ _ | exact Kd.V_nil _ _ _ _ _ | exact Kd.Q_nil _ _ _ _ _ | exact Kd.S_nil _ _ _ _ _, zB_⟩

end Go.Proofs.YtjnfaidngaobmaaGreatDoor.PFnLeastOfDigits

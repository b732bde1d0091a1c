-- Laid by this session's program gprint.py over the kit's print.
import Derived.Test.YtlgpjilhjfkmbaaGreatDoorPFnTicketsTurnedx0
import Derived.Test.YtlgpjilhjfkmbaaGreatDoorPFnTicketsTurnedx1
import Derived.Test.YtlgpjilhjfkmbaaGreatDoorPFnTicketsTurnedx2
import Derived.Test.YtlgpjilhjfkmbaaGreatDoorPFnTicketsTurnedx3
namespace Go.Proofs.YtlgpjilhjfkmbaaGreatDoor.PFnTicketsTurned
open Go.RowKit Go.Proofs.YtlgpjilhjfkmbaaGreatDoorW.PrintWords Go.Proofs.YtlgpjilhjfkmbaaGreatDoorW.PrintLast Go.Proofs.YtlgpjilhjfkmbaaGreatDoorW.PrintMore
attribute [local go_sem] max2_int min2_int max_two min_two max_three min_three max_four min_four   -- for this text's walks alone
set_option linter.unusedVariables false
set_option linter.unusedSimpArgs false
theorem z4_0_ {p : Prop} (h : p := by (try simp only [List.map_toArray, List.map_cons, List.map_nil]); first | done | rfl | (simp only [List.length_drop, List.length_take]; rfl)) : p := h
theorem z4_1_ {p : Prop} (h : p := by repeat (first | (with_reducible first | exact HB.out | apply below_alloc | apply pw_below_drewN | apply below_drew1) | exact HB.out)) : p := h
theorem z4_2_ {p : Prop} (h : p := by first | rfl | (simp; done) | (simp [*]; done)) : p := h
theorem z4_3_ {p : Prop} (h : p := by first | (with_reducible assumption) | assumption) : p := h

/-! ### spec_NinesTicket: function 13 -/
def spec_NinesTicket.l0 : Nat → ByteArray → ByteArray → Int → Option (ByteArray × Bool)
 | 0, _, _, _ => none
 | k + 1, x0, x4, x5 => if x5 < (x0.size : Int) then (if 0 ≤ x5 then ((spec_l1Num.f k (9 - (((bt x0 x5) - 48) % 256))).bind fun t184 => (if x4.size + t184.size ≤ 9223372036854775807 then (spec_NinesTicket.l0 k x0 (x4 ++ t184) (wrap64 (x5 + 1))) else (none))) else (none)) else (some (x4, true))
def spec_NinesTicket.f (k : Nat) (a0 : ByteArray) : Option (ByteArray × Bool) := (spec_tkGood.f k a0).bind fun t183 => (if t183 = true then (spec_NinesTicket.l0 k a0 (⟨#[]⟩ : ByteArray) 0) else (some ((⟨#[]⟩ : ByteArray), false)))
theorem spec_NinesTicket.mono_l : ∀ k, (∀ y0 y1 y2, LeO (spec_NinesTicket.l0 k y0 y1 y2) (spec_NinesTicket.l0 (k + 1) y0 y1 y2))
 | 0 => fun _ _ _ r h => by simp [spec_NinesTicket.l0] at h
 | k + 1 => by
  have ih0 := spec_NinesTicket.mono_l k
  intro y0 y1 y2
  unfold spec_NinesTicket.l0
  repeat' first
  | (with_reducible exact ih0 _ _ _)
  | (with_reducible exact spec_l1Num.mono _ _)
  | (with_reducible exact spec_tkGood.mono _ _)
  | (with_reducible exact LeO.refl _)
  | (with_reducible exact LeO.none _)
  | (with_reducible refine LeO.ite ?_ ?_)
  | (with_reducible refine LeO.bind ?_ (fun _ => ?_))
  | exact ih0 _ _ _
  | exact spec_l1Num.mono _ _
  | exact spec_tkGood.mono _ _
  | exact LeO.none _
  | refine LeO.ite ?_ ?_
  | refine LeO.bind ?_ (fun _ => ?_)
theorem spec_NinesTicket.mono : ∀ a0 k, LeO (spec_NinesTicket.f k a0) (spec_NinesTicket.f (k + 1) a0) := by
 intro a0 k
 have ih0 := spec_NinesTicket.mono_l k
 unfold spec_NinesTicket.f
 repeat' first
  | (with_reducible exact ih0 _ _ _)
  | (with_reducible exact spec_l1Num.mono _ _)
  | (with_reducible exact spec_tkGood.mono _ _)
  | (with_reducible exact LeO.refl _)
  | (with_reducible exact LeO.none _)
  | (with_reducible refine LeO.ite ?_ ?_)
  | (with_reducible refine LeO.bind ?_ (fun _ => ?_))
  | exact ih0 _ _ _
  | exact spec_l1Num.mono _ _
  | exact spec_tkGood.mono _ _
  | exact LeO.none _
  | refine LeO.ite ?_ ?_
  | refine LeO.bind ?_ (fun _ => ?_)
set_option maxHeartbeats 8000000 in
set_option maxRecDepth 100000 in
theorem spec_NinesTicket.calls (k : Nat) (a0 : ByteArray) (r1 : ByteArray) (r2 : Bool) (w : World) (h : spec_NinesTicket.f k a0 = some (r1, r2)) :
 Calls Tryz.prog 13 #[.string a0] w fun e w' => e = .returned (.tuple #[.string r1, .bool r2]) ∧ Below w.heap.size w w' := by
 have HB := Aside0.mk (Below.refl w.heap.size w)
 have H : ((spec_tkGood.f k a0).bind fun t183 => (if t183 = true then (spec_NinesTicket.l0 k a0 (⟨#[]⟩ : ByteArray) 0) else (some ((⟨#[]⟩ : ByteArray), false)))) = some (r1, r2) := h
 clear h
 replace H := Option.bind_eq_some_iff.mp H
 obtain ⟨t183, A20, H⟩ := H
 have A2 := Aside0.mk A20
 clear A20
 by_cases c3 : t183 = true
 · subst c3
   have H1 : (spec_NinesTicket.l0 k a0 (⟨#[]⟩ : ByteArray) 0) = some (r1, r2) := by rw [if_pos rfl] at H; exact H
   clear H
   have H := H1
   clear H1
   have H' := Aside0.mk H
   clear H
   go_enter Tryz.func13, Tryz.ntmps13
   go_wp2_with (first | ((with_reducible refine gate_callee (f := 39) rfl ?_); refine goesL_ (some 7) rfl rfl Tryz.func39 (by kernel_rfl) rfl #[.string a0] rfl z4_0_ ?_; (with_reducible refine (spec_tkGood.calls k a0 true _ A2.out).mono ?_); rintro e w' ⟨rfl, ⟨nd, rfl⟩⟩; refine ⟨_, rfl, ?_⟩))
   go_loopg [4, 5] k (fun kq v4 v5 w' => ∃ (x4_1 : ByteArray) (x5_1 : Int), v4 = .string x4_1 ∧ v5 = .int .i64 x5_1 ∧ Aside0 (spec_NinesTicket.l0 kq a0 x4_1 x5_1 = some (r1, r2)) ∧ Aside0 (kq ≤ k) ∧ Aside0 (Below w.heap.size w w'))
   case atStart => exact ⟨((⟨#[]⟩ : ByteArray)), (0), z4_2_, z4_2_, H', ⟨Nat.le_refl _⟩, ⟨by repeat (first | (with_reducible first | exact HB.out | apply below_alloc | apply pw_below_drewN | apply below_drew1) | exact HB.out)⟩⟩
   case round =>
    clear H'
    (try clear c1);(try clear p2);(try clear c3)
    obtain ⟨x4_1, x5_1, rfl, rfl, HA, HK1, HB⟩ := hrel
    cases gk with
    | zero => exact absurd HA.out (by simp [spec_NinesTicket.l0])
    | succ k1 =>
     have H := HA.out
     clear HA
     simp only [spec_NinesTicket.l0] at H
     by_cases c4 : x5_1 < (a0.size : Int)
     · rw [if_pos c4] at H
       have c4b0 : decide (x5_1 < (a0.size : Int)) = true := decide_eq_true c4
       clear c4
       by_cases c5 : 0 ≤ x5_1
       rotate_left
       · exact none_ (if_neg c5) H
       rw [if_pos c5] at H
       have c5b0 : decide (0 ≤ x5_1) = true := decide_eq_true c5
       clear c5
       replace H := Option.bind_eq_some_iff.mp H
       obtain ⟨t184, A70, H⟩ := H
       have A7 := Aside0.mk A70
       clear A70
       by_cases c8 : x4_1.size + t184.size ≤ 9223372036854775807
       rotate_left
       · exact none_ (if_neg c8) H
       rw [if_pos c8] at H
       have c8b0 := eq_true c8
       have c8b1 : decide (x4_1.size + t184.size ≤ 9223372036854775807) = true := decide_eq_true c8
       try have c8b2 : (9223372036854775807 < x4_1.size + t184.size) = False := eq_false (Nat.not_lt.2 c8)
       have H' := Aside0.mk H
       clear H
       have p6 : 0 ≤ (x5_1 : Int) := of_decide_eq_true z4_3_
       have q6 : x5_1 < (a0.size : Int) := of_decide_eq_true z4_3_
       have hx6 := bt_at a0 x5_1
       replace p6 := eq_true p6
       replace q6 := eq_true q6
       go_wp2_with (first | ((with_reducible refine gate_callee (f := 42) rfl ?_); refine goesL_ (some 22) rfl rfl Tryz.func42 (by kernel_rfl) rfl #[.int .i64 (9 - (((bt a0 x5_1) - 48) % 256))] rfl z4_0_ ?_; (with_reducible refine (spec_l1Num.calls k1 (9 - (((bt a0 x5_1) - 48) % 256)) t184 _ A7.out).mono ?_); rintro e w9 ⟨rfl, hb⟩; refine ⟨_, rfl, ?_⟩; have n0_ := Aside0.mk (below_step z4_1_ hb); clear HB; have HB := n0_; clear n0_; (try clear hb); (try clear hb2); (try clear hk); (try clear hi)))
       go_roundg k1
       case measure => have := HK1.out; omega
       case rel => exact ⟨(x4_1 ++ t184), (wrap64 (x5_1 + 1)), z4_2_, z4_2_, H', ⟨by have := HK1.out; omega⟩, ⟨by repeat (first | (with_reducible first | exact HB.out | apply below_alloc | apply pw_below_drewN | apply below_drew1) | exact HB.out)⟩⟩
     rw [if_neg c4] at H
     have c4b0 : decide (x5_1 < (a0.size : Int)) = false := decide_eq_false c4
     clear c4
     simp only [Option.some.injEq, Prod.mk.injEq] at H
     obtain ⟨rfl, rfl⟩ := H
     go_wp2
     go_ret2
     exact ⟨by first | rfl | (simp [errW_none, errW_some] <;> rfl) | (simp [*, errW_none, errW_some] <;> rfl), by repeat (first | (with_reducible first | exact HB.out | apply below_alloc | apply pw_below_drewN | apply below_drew1) | exact HB.out)⟩
 replace c3 := Bool.eq_false_iff.mpr c3
 subst c3
 have H1 : (some ((⟨#[]⟩ : ByteArray), false)) = some (r1, r2) := by rw [if_neg (show ¬ (false = true) by decide)] at H; exact H
 clear H
 have H := H1
 clear H1
 simp only [Option.some.injEq, Prod.mk.injEq] at H
 obtain ⟨rfl, rfl⟩ := H
 go_enter Tryz.func13, Tryz.ntmps13
 go_wp2_with (first | ((with_reducible refine gate_callee (f := 39) rfl ?_); refine goesL_ (some 7) rfl rfl Tryz.func39 (by kernel_rfl) rfl #[.string a0] rfl z4_0_ ?_; (with_reducible refine (spec_tkGood.calls k a0 false _ A2.out).mono ?_); rintro e w' ⟨rfl, ⟨nd, rfl⟩⟩; refine ⟨_, rfl, ?_⟩))
 go_ret2
 exact ⟨by first | rfl | (simp [errW_none, errW_some] <;> rfl) | (simp [*, errW_none, errW_some] <;> rfl), by repeat (first | (with_reducible first | exact HB.out | apply below_alloc | apply pw_below_drewN | apply below_drew1) | exact HB.out)⟩

/-! ### impl_IsEverySecond: function 14 -/
-- behind 36
def impl_IsEverySecond.l0 : Nat → ByteArray → Int → Int → Nat → Option (Int × Int)
 | 0, _, _, _, _ => none
 | k + 1, s, x, y, i => if i < s.size then (if i % 2 = 0 then impl_IsEverySecond.l0 k s (wrap64 (x + (((bt s (i : Int)) - 48) % 256))) y (i + 1) else impl_IsEverySecond.l0 k s x (wrap64 (y + (((bt s (i : Int)) - 48) % 256))) (i + 1)) else some (x, y)
def impl_IsEverySecond.f (k : Nat) (a0 : ByteArray) : Option (Bool × Bool) := (impl_IsTicket.f k a0).bind fun t => (if t = true then (if a0.size ≤ 1048576 then ((impl_IsEverySecond.l0 k a0 0 0 0).bind fun z => some (z.1 == z.2, true)) else none) else some (false, false))
theorem impl_IsEverySecond.mono_0 : ∀ k s x y i, LeO (impl_IsEverySecond.l0 k s x y i) (impl_IsEverySecond.l0 (k + 1) s x y i)
 | 0 => fun _ _ _ _ r h => by simp [impl_IsEverySecond.l0] at h
 | k + 1 => fun s x y i => by
  have ih := impl_IsEverySecond.mono_0 k
  unfold impl_IsEverySecond.l0
  exact LeO.ite (LeO.ite (ih _ _ _ _) (ih _ _ _ _)) (LeO.refl _)
theorem impl_IsEverySecond.mono : ∀ a0 k, LeO (impl_IsEverySecond.f k a0) (impl_IsEverySecond.f (k + 1) a0) := by
 intro a0 k
 unfold impl_IsEverySecond.f
 exact LeO.bind (impl_IsTicket.mono _ _) (fun _ => LeO.ite (LeO.ite (LeO.bind (impl_IsEverySecond.mono_0 _ _ _ _ _) (fun _ => LeO.refl _)) (LeO.refl _)) (LeO.refl _))
theorem impl_IsEverySecond.succ_ (n : Nat) (h : n < 4611686018427387904) : Value.int .i64 (wrap64 ((n : Int) + 1)) = Value.int .i64 ((n + 1 : Nat) : Int) := by
 have : wrap64 ((n : Int) + 1) = ((n + 1 : Nat) : Int) := by simp [wrap64]; omega
 rw [this]
set_option maxHeartbeats 8000000 in
set_option maxRecDepth 100000 in
theorem impl_IsEverySecond.calls (k : Nat) (a0 : ByteArray) (r1 : Bool) (r2 : Bool) (w : World) (h : impl_IsEverySecond.f k a0 = some (r1, r2)) :
 Calls Tryz.prog 14 #[.string a0] w fun e w' => e = .returned (.tuple #[.bool r1, .bool r2]) ∧ Below w.heap.size w w' := by
 unfold impl_IsEverySecond.f at h
 obtain ⟨t, ht, h⟩ := Option.bind_eq_some_iff.mp h
 have A1 := Aside0.mk ht
 clear ht
 cases t with
 | false =>
  rw [if_neg (by decide)] at h
  simp only [Option.some.injEq, Prod.mk.injEq] at h
  obtain ⟨rfl, rfl⟩ := h
  go_enter Tryz.func14, Tryz.ntmps14
  go_wp2_with (first | (go_at_call 36; (with_reducible refine (impl_IsTicket.calls k a0 false _ A1.out).mono ?_); rintro e w' ⟨rfl, ⟨nd, rfl⟩⟩))
  go_ret2
  exact ⟨rfl, by repeat (first | exact Below.refl _ _ | apply pw_below_drewN | apply below_drew1)⟩
 | true =>
  rw [if_pos rfl] at h
  by_cases hz : a0.size ≤ 1048576
  rotate_left
  · exact none_ (if_neg hz) h
  rw [if_pos hz] at h
  obtain ⟨⟨z1, z2⟩, hz2, h⟩ := Option.bind_eq_some_iff.mp h
  simp only [Option.some.injEq, Prod.mk.injEq] at h
  obtain ⟨rfl, rfl⟩ := h
  have H' := Aside0.mk hz2
  have HZ := Aside0.mk hz
  clear hz2 hz
  have HB := Aside0.mk (Below.refl w.heap.size w)
  go_enter Tryz.func14, Tryz.ntmps14
  go_upto_region 4 with (first | (go_at_call 36; (with_reducible refine (impl_IsTicket.calls k a0 true _ A1.out).mono ?_); rintro e w' ⟨rfl, ⟨nd, rfl⟩⟩; have n0_ := Aside0.mk (pw_below_drewN HB.out nd); clear HB; have HB := n0_; clear n0_) | ((with_reducible refine gate_dst (N := 4) rfl ?_); refine box_event ?hg (N := 4) ?hd (cs := #[.int .i64 0, .int .i64 0]) (t := 53) ?hr ?_; (case hd => rfl); (case hg => rfl); (case hr => first | (go_simp; done) | (go_simp; rfl)); intro gb4 hg w4 hbox hb; have n0_ := Aside0.mk (below_step HB.out hb); have BK := Aside0.mk hbox; have GE := Aside0.mk ((by rw [hg]; exact below_size HB.out : w.heap.size ≤ gb4)); clear HB; have HB := n0_; clear n0_ hb hbox hg; have hcz0 : w4.cell? ⟨gb4, 0, none⟩ = some (.int .i64 0) := (blk_cell BK.out 0).trans rfl; have hcz1 : w4.cell? ⟨gb4, 1, none⟩ = some (.int .i64 0) := (blk_cell BK.out 1).trans rfl; have hfz0 := blk_frozen BK.out 0; have hfz1 := blk_frozen BK.out 1))
  have s0_ := blk_put BK.out 0 (.int .i64 0) rfl
  have s1_ := blk_put s0_ 1 (.int .i64 0) rfl
  have n1_ := Aside0.mk (below_set (g := gb4) (j := 1) (v := .int .i64 0) (below_set (g := gb4) (j := 0) (v := .int .i64 0) HB.out GE.out) GE.out)
  have n2_ := Aside0.mk (show ((w4.setCell ⟨gb4, 0, none⟩ (.int .i64 0)).setCell ⟨gb4, 1, none⟩ (.int .i64 0)).heap[gb4]? = some (.cells #[.int .i64 0, .int .i64 0] 53 (0, 0)) from s1_)
  clear s0_ s1_ hcz0 hcz1 hfz0 hfz1 BK HB
  generalize (w4.setCell ⟨gb4, 0, none⟩ (.int .i64 0)).setCell ⟨gb4, 1, none⟩ (.int .i64 0) = w5 at n1_ n2_ ⊢
  have HB := n1_
  have BK := n2_
  clear n1_ n2_
  go_wp2
  go_loopg [12] k (fun kq v12 w' => ∃ (x y : Int) (i : Nat), v12 = .int .i64 (i : Int) ∧ Aside0 (impl_IsEverySecond.l0 kq a0 x y i = some (z1, z2)) ∧ Aside0 (w'.heap[gb4]? = some (.cells #[.int .i64 x, .int .i64 y] 53 (0, 0))) ∧ Aside0 (Below w.heap.size w w'))
  case atStart => exact ⟨0, 0, 0, rfl, H', BK, HB⟩
  case round =>
   clear H' BK HB A1
   obtain ⟨x, y, i, rfl, HA, BK, HB⟩ := hrel
   have hcz0 : wr.cell? ⟨gb4, 0, none⟩ = some (.int .i64 x) := (blk_cell BK.out 0).trans rfl
   have hcz1 : wr.cell? ⟨gb4, 1, none⟩ = some (.int .i64 y) := (blk_cell BK.out 1).trans rfl
   cases gk with
   | zero => exact absurd HA.out (by simp [impl_IsEverySecond.l0])
   | succ k1 =>
    have H := HA.out
    clear HA
    simp only [impl_IsEverySecond.l0] at H
    by_cases c1 : i < a0.size
    · rw [if_pos c1] at H
      have hfz0 := blk_frozen BK.out 0
      have hfz1 := blk_frozen BK.out 1
      have c1b0 : decide ((i : Int) < (a0.size : Int)) = true := decide_eq_true (by omega)
      have c1b1 : decide (i < a0.size) = true := decide_eq_true c1
      have p5 : (0 ≤ (i : Int)) = True := eq_true (by omega)
      have q5 : ((i : Int) < (a0.size : Int)) = True := eq_true (by omega)
      have q6 : (i < a0.size) = True := eq_true c1
      have hx5 : ((a0[i]'c1).toNat : Int) = bt a0 (i : Int) := by
       unfold bt
       rw [dif_pos (by rw [Int.toNat_natCast]; exact c1)]
       simp only [Int.toNat_natCast]
      have hsx := impl_IsEverySecond.succ_ i (by have := HZ.out; omega)
      by_cases c2 : i % 2 = 0
      · rw [if_pos c2] at H
        have hrem : Int.tmod (i : Int) 2 = 0 := by rw [Int.tmod_eq_emod_of_nonneg (by omega)]; omega
        have H' := Aside0.mk H
        have B1 := Aside0.mk (blk_put BK.out 0 (.int .i64 (wrap64 (x + (((bt a0 (i : Int)) - 48) % 256)))) rfl)
        have B2 := Aside0.mk (below_set (g := gb4) (j := 0) (v := .int .i64 (wrap64 (x + (((bt a0 (i : Int)) - 48) % 256)))) HB.out GE.out)
        clear H c2
        go_upto_region 7 with fail
        go_region
        go_wp2
        go_roundg k1
        case measure => omega
        case rel => exact ⟨_, _, i + 1, by first | rfl | exact hsx, H', B1, ⟨by first | exact B2.out | exact below_drew1 B2.out⟩⟩
      rw [if_neg c2] at H
      have hrem : Int.tmod (i : Int) 2 = 1 := by rw [Int.tmod_eq_emod_of_nonneg (by omega)]; omega
      have H' := Aside0.mk H
      have B1 := Aside0.mk (blk_put BK.out 1 (.int .i64 (wrap64 (y + (((bt a0 (i : Int)) - 48) % 256)))) rfl)
      have B2 := Aside0.mk (below_set (g := gb4) (j := 1) (v := .int .i64 (wrap64 (y + (((bt a0 (i : Int)) - 48) % 256)))) HB.out GE.out)
      clear H c2
      go_upto_region 7 with fail
      go_region
      go_wp2
      go_roundg k1
      case measure => omega
      case rel => exact ⟨_, _, i + 1, by first | rfl | exact hsx, H', B1, ⟨by first | exact B2.out | exact below_drew1 B2.out⟩⟩
    rw [if_neg c1] at H
    have c1b0 : decide ((i : Int) < (a0.size : Int)) = false := decide_eq_false (by omega)
    have c1b1 : decide (i < a0.size) = false := decide_eq_false c1
    have e := Option.some.inj H
    obtain ⟨rfl, rfl⟩ := Prod.mk.inj e
    clear H c1 e
    go_wp2
    go_ret2
    exact ⟨rfl, HB.out⟩

/-! ### spec_IsEverySecond: function 15 -/
def spec_IsEverySecond.l0 : Nat → ByteArray → Int → Int → Option (Bool × Bool)
 | 0, _, _, _ => none
 | k + 1, x0, x4, x5 => if x5 < (x0.size : Int) then (if 0 ≤ x5 then (if 0 ≤ (wrap64 (x5 + 1)) then (if (wrap64 (x5 + 1)) < (x0.size : Int) then (spec_IsEverySecond.l0 k x0 (wrap64 (x4 + (wrap64 ((wrap64 (bt x0 x5)) - (wrap64 (bt x0 (wrap64 (x5 + 1)))))))) (wrap64 (x5 + 2))) else (none)) else (none)) else (none)) else (some ((x4 == 0), true))
def spec_IsEverySecond.f (k : Nat) (a0 : ByteArray) : Option (Bool × Bool) := (spec_tkGood.f k a0).bind fun t185 => (if t185 = true then (spec_IsEverySecond.l0 k a0 0 0) else (some (false, false)))
theorem spec_IsEverySecond.mono_l : ∀ k, (∀ y0 y1 y2, LeO (spec_IsEverySecond.l0 k y0 y1 y2) (spec_IsEverySecond.l0 (k + 1) y0 y1 y2))
 | 0 => fun _ _ _ r h => by simp [spec_IsEverySecond.l0] at h
 | k + 1 => by
  have ih0 := spec_IsEverySecond.mono_l k
  intro y0 y1 y2
  unfold spec_IsEverySecond.l0
  repeat' first
  | (with_reducible exact ih0 _ _ _)
  | (with_reducible exact spec_tkGood.mono _ _)
  | (with_reducible exact LeO.refl _)
  | (with_reducible exact LeO.none _)
  | (with_reducible refine LeO.ite ?_ ?_)
  | (with_reducible refine LeO.bind ?_ (fun _ => ?_))
  | exact ih0 _ _ _
  | exact spec_tkGood.mono _ _
  | exact LeO.none _
  | refine LeO.ite ?_ ?_
  | refine LeO.bind ?_ (fun _ => ?_)
theorem spec_IsEverySecond.mono : ∀ a0 k, LeO (spec_IsEverySecond.f k a0) (spec_IsEverySecond.f (k + 1) a0) := by
 intro a0 k
 have ih0 := spec_IsEverySecond.mono_l k
 unfold spec_IsEverySecond.f
 repeat' first
  | (with_reducible exact ih0 _ _ _)
  | (with_reducible exact spec_tkGood.mono _ _)
  | (with_reducible exact LeO.refl _)
  | (with_reducible exact LeO.none _)
  | (with_reducible refine LeO.ite ?_ ?_)
  | (with_reducible refine LeO.bind ?_ (fun _ => ?_))
  | exact ih0 _ _ _
  | exact spec_tkGood.mono _ _
  | exact LeO.none _
  | refine LeO.ite ?_ ?_
  | refine LeO.bind ?_ (fun _ => ?_)
set_option maxHeartbeats 8000000 in
set_option maxRecDepth 100000 in
theorem spec_IsEverySecond.calls (k : Nat) (a0 : ByteArray) (r1 : Bool) (r2 : Bool) (w : World) (h : spec_IsEverySecond.f k a0 = some (r1, r2)) :
 Calls Tryz.prog 15 #[.string a0] w fun e w' => e = .returned (.tuple #[.bool r1, .bool r2]) ∧ Drawn0 w w' := by
 have H : ((spec_tkGood.f k a0).bind fun t185 => (if t185 = true then (spec_IsEverySecond.l0 k a0 0 0) else (some (false, false)))) = some (r1, r2) := h
 clear h
 replace H := Option.bind_eq_some_iff.mp H
 obtain ⟨t185, A20, H⟩ := H
 have A2 := Aside0.mk A20
 clear A20
 by_cases c3 : t185 = true
 · subst c3
   have H1 : (spec_IsEverySecond.l0 k a0 0 0) = some (r1, r2) := by rw [if_pos rfl] at H; exact H
   clear H
   have H := H1
   clear H1
   have H' := Aside0.mk H
   clear H
   go_enter Tryz.func15, Tryz.ntmps15
   go_wp2_with (first | (go_at_call 39; (with_reducible refine (spec_tkGood.calls k a0 true _ A2.out).mono ?_); rintro e w' ⟨rfl, ⟨nd, rfl⟩⟩; (try first | exact ⟨rfl, _, World.drewN_drewN _ _ _⟩ | exact ⟨rfl, _, Eq.trans (World.drewN_drewN _ _ _) (congrArg (World.drewN _) (Nat.add_assoc _ _ _))⟩)))
   repeat (go_quiet (fail); try go_wp2_with (first | (go_at_call 39; (with_reducible refine (spec_tkGood.calls k a0 true _ A2.out).mono ?_); rintro e w' ⟨rfl, ⟨nd, rfl⟩⟩; (try first | exact ⟨rfl, _, World.drewN_drewN _ _ _⟩ | exact ⟨rfl, _, Eq.trans (World.drewN_drewN _ _ _) (congrArg (World.drewN _) (Nat.add_assoc _ _ _))⟩))))
   go_loopg [4, 5] k (fun kq v4 v5 w' => ∃ (x4_1 : Int) (x5_1 : Int), v4 = .int .i64 x4_1 ∧ v5 = .int .i64 x5_1 ∧ Aside0 (spec_IsEverySecond.l0 kq a0 x4_1 x5_1 = some (r1, r2)) ∧ Aside0 (kq ≤ k) ∧ Drawn0 w w')
   case atStart => exact ⟨(0), (0), z4_2_, z4_2_, H', ⟨Nat.le_refl _⟩, by repeat (first | exact Drawn0.refl _ | apply Drawn0.step)⟩
   case round =>
    clear H'
    (try clear c1);(try clear p2);(try clear c3)
    obtain ⟨x4_1, x5_1, rfl, rfl, HA, HK1, ⟨m1, rfl⟩⟩ := hrel
    cases gk with
    | zero => exact absurd HA.out (by simp [spec_IsEverySecond.l0])
    | succ k1 =>
     have H := HA.out
     clear HA
     simp only [spec_IsEverySecond.l0] at H
     by_cases c4 : x5_1 < (a0.size : Int)
     · rw [if_pos c4] at H
       have c4b0 : decide (x5_1 < (a0.size : Int)) = true := decide_eq_true c4
       clear c4
       by_cases c5 : 0 ≤ x5_1
       rotate_left
       · exact none_ (if_neg c5) H
       rw [if_pos c5] at H
       have c5b0 : decide (0 ≤ x5_1) = true := decide_eq_true c5
       clear c5
       obtain ⟨ji7, hji7⟩ : ∃ j_ : Int, (wrap64 (x5_1 + 1)) = j_ := ⟨_, rfl⟩
       replace H : (if 0 ≤ (ji7) then (if (ji7) < (a0.size : Int) then (spec_IsEverySecond.l0 k1 a0 (wrap64 (x4_1 + (wrap64 ((wrap64 (bt a0 x5_1)) - (wrap64 (bt a0 (ji7))))))) (wrap64 (x5_1 + 2))) else (none)) else (none)) = some (r1, r2) := by first | (rw [hji7] at H; exact H) | (simp only [hji7] at H ⊢; exact H)
       have hji7w : (IntKind.i64.wrap (x5_1 + 1)) = ji7 := (i64_w _).trans hji7
       by_cases c8 : 0 ≤ (ji7)
       rotate_left
       · exact none_ (if_neg c8) H
       rw [if_pos c8] at H
       have c8b0 : decide (0 ≤ (ji7)) = true := decide_eq_true c8
       clear c8
       by_cases c9 : (ji7) < (a0.size : Int)
       rotate_left
       · exact none_ (if_neg c9) H
       rw [if_pos c9] at H
       have c9b0 : decide ((ji7) < (a0.size : Int)) = true := decide_eq_true c9
       clear c9
       have H' := Aside0.mk H
       clear H
       have p6 : 0 ≤ (x5_1 : Int) := of_decide_eq_true z4_3_
       have q6 : x5_1 < (a0.size : Int) := of_decide_eq_true z4_3_
       have hx6 := bt_at a0 x5_1
       replace p6 := eq_true p6
       replace q6 := eq_true q6
       have p10 : 0 ≤ ((ji7) : Int) := of_decide_eq_true z4_3_
       have q10 : (ji7) < (a0.size : Int) := of_decide_eq_true z4_3_
       have hx10 := bt_at a0 (ji7)
       replace p10 := eq_true p10
       replace q10 := eq_true q10
       go_wp2
       repeat (go_quiet (fail); try go_wp2)
       go_roundg k1
       case measure => have := HK1.out; omega
       case rel => exact ⟨(wrap64 (x4_1 + (wrap64 ((wrap64 (bt a0 x5_1)) - (wrap64 (bt a0 (ji7))))))), (wrap64 (x5_1 + 2)), (by first | rfl | (simp; done) | (simp only [← hji7] <;> (first | rfl | simp)) | (simp [*]; done)), z4_2_, H', ⟨by have := HK1.out; omega⟩, by repeat (first | exact Drawn0.refl _ | apply Drawn0.step)⟩
     rw [if_neg c4] at H
     have c4b0 : decide (x5_1 < (a0.size : Int)) = false := decide_eq_false c4
     clear c4
     simp only [Option.some.injEq, Prod.mk.injEq] at H
     obtain ⟨rfl, rfl⟩ := H
     go_wp2
     repeat (go_quiet (fail); try go_wp2)
     go_ret2
     exact ⟨by first | rfl | (simp; done) | (simp [*]; done), by repeat (first | exact Drawn0.refl _ | apply Drawn0.step)⟩
 replace c3 := Bool.eq_false_iff.mpr c3
 subst c3
 have H1 : (some (false, false)) = some (r1, r2) := by rw [if_neg (show ¬ (false = true) by decide)] at H; exact H
 clear H
 have H := H1
 clear H1
 simp only [Option.some.injEq, Prod.mk.injEq] at H
 obtain ⟨rfl, rfl⟩ := H
 go_enter Tryz.func15, Tryz.ntmps15
 go_wp2_with (first | (go_at_call 39; (with_reducible refine (spec_tkGood.calls k a0 false _ A2.out).mono ?_); rintro e w' ⟨rfl, ⟨nd, rfl⟩⟩; (try first | exact ⟨rfl, _, World.drewN_drewN _ _ _⟩ | exact ⟨rfl, _, Eq.trans (World.drewN_drewN _ _ _) (congrArg (World.drewN _) (Nat.add_assoc _ _ _))⟩)))
 repeat (go_quiet (fail); try go_wp2_with (first | (go_at_call 39; (with_reducible refine (spec_tkGood.calls k a0 false _ A2.out).mono ?_); rintro e w' ⟨rfl, ⟨nd, rfl⟩⟩; (try first | exact ⟨rfl, _, World.drewN_drewN _ _ _⟩ | exact ⟨rfl, _, Eq.trans (World.drewN_drewN _ _ _) (congrArg (World.drewN _) (Nat.add_assoc _ _ _))⟩))))
 go_ret2
 exact ⟨by first | rfl | (simp; done) | (simp [*]; done), by repeat (first | exact Drawn0.refl _ | apply Drawn0.step)⟩

/-! ### impl_LuckyDigits: function 16 -/
def impl_LuckyDigits.f (k : Nat) (a0 : ByteArray) : Option (List Int × Bool) := (impl_IsTicket.f k a0).bind fun t186 => (if t186 = true then (if 0 ≤ (wrap64 ((a0.size : Int) - 1)) then (if (wrap64 ((a0.size : Int) - 1)) ≤ (a0.size : Int) then (if (a0.extract 0 ((wrap64 ((a0.size : Int) - 1)) : Int).toNat).size + 1 ≤ 9223372036854775807 then ((impl_halves.f ((a0.extract 0 ((wrap64 ((a0.size : Int) - 1)) : Int).toNat) ++ (⟨#[48]⟩ : ByteArray))).bind fun bt187 => ((impl_sumOf.f k bt187.1).bind fun t189 => ((impl_sumOf.f k bt187.2).bind fun t190 => ((impl_within.f (wrap64 (t189 - t190)) 0 9).bind fun t191 => (if t191 = true then (some ((([wrap64 (t189 - t190)] : List Int)), true)) else (some (([] : List Int), true))))))) else (none)) else (none)) else (none)) else (some (([] : List Int), false)))
theorem impl_LuckyDigits.mono : ∀ a0 k, LeO (impl_LuckyDigits.f k a0) (impl_LuckyDigits.f (k + 1) a0) := by
 intro a0 k
 unfold impl_LuckyDigits.f
 repeat' first
  | (with_reducible exact impl_IsTicket.mono _ _)
  | (with_reducible exact impl_sumOf.mono _ _)
  | (with_reducible exact LeO.refl _)
  | (with_reducible exact LeO.none _)
  | (with_reducible refine LeO.ite ?_ ?_)
  | (with_reducible refine LeO.bind ?_ (fun _ => ?_))
  | exact impl_IsTicket.mono _ _
  | exact impl_sumOf.mono _ _
  | exact LeO.none _
  | refine LeO.ite ?_ ?_
  | refine LeO.bind ?_ (fun _ => ?_)
set_option maxHeartbeats 8000000 in
set_option maxRecDepth 100000 in
theorem impl_LuckyDigits.calls (k : Nat) (a0 : ByteArray) (r1 : List Int) (r2 : Bool) (w : World) (h : impl_LuckyDigits.f k a0 = some (r1, r2)) :
 Calls Tryz.prog 16 #[.string a0] w fun e w' => ∃ v0_ : Value, e = .returned (.tuple #[v0_, .bool r2]) ∧ Kd.R (Kd.int .i64) 3 w' w.heap.size (fun _ => True) v0_ r1 ∧ Below w.heap.size w w' := by
 have HB := Aside0.mk (Below.refl w.heap.size w)
 have H : ((impl_IsTicket.f k a0).bind fun t186 => (if t186 = true then (if 0 ≤ (wrap64 ((a0.size : Int) - 1)) then (if (wrap64 ((a0.size : Int) - 1)) ≤ (a0.size : Int) then (if (a0.extract 0 ((wrap64 ((a0.size : Int) - 1)) : Int).toNat).size + 1 ≤ 9223372036854775807 then ((impl_halves.f ((a0.extract 0 ((wrap64 ((a0.size : Int) - 1)) : Int).toNat) ++ (⟨#[48]⟩ : ByteArray))).bind fun bt187 => ((impl_sumOf.f k bt187.1).bind fun t189 => ((impl_sumOf.f k bt187.2).bind fun t190 => ((impl_within.f (wrap64 (t189 - t190)) 0 9).bind fun t191 => (if t191 = true then (some ((([wrap64 (t189 - t190)] : List Int)), true)) else (some (([] : List Int), true))))))) else (none)) else (none)) else (none)) else (some (([] : List Int), false)))) = some (r1, r2) := h
 clear h
 replace H := Option.bind_eq_some_iff.mp H
 obtain ⟨t186, A20, H⟩ := H
 have A2 := Aside0.mk A20
 clear A20
 by_cases c3 : t186 = true
 · subst c3
   have H1 : (if 0 ≤ (wrap64 ((a0.size : Int) - 1)) then (if (wrap64 ((a0.size : Int) - 1)) ≤ (a0.size : Int) then (if (a0.extract 0 ((wrap64 ((a0.size : Int) - 1)) : Int).toNat).size + 1 ≤ 9223372036854775807 then ((impl_halves.f ((a0.extract 0 ((wrap64 ((a0.size : Int) - 1)) : Int).toNat) ++ (⟨#[48]⟩ : ByteArray))).bind fun bt187 => ((impl_sumOf.f k bt187.1).bind fun t189 => ((impl_sumOf.f k bt187.2).bind fun t190 => ((impl_within.f (wrap64 (t189 - t190)) 0 9).bind fun t191 => (if t191 = true then (some ((([wrap64 (t189 - t190)] : List Int)), true)) else (some (([] : List Int), true))))))) else (none)) else (none)) else (none)) = some (r1, r2) := by rw [if_pos rfl] at H; exact H
   clear H
   have H := H1
   clear H1
   obtain ⟨ji4, hji4⟩ : ∃ j_ : Int, (wrap64 ((a0.size : Int) - 1)) = j_ := ⟨_, rfl⟩
   replace H : (if 0 ≤ (ji4) then (if (ji4) ≤ (a0.size : Int) then (if (a0.extract 0 ((ji4) : Int).toNat).size + 1 ≤ 9223372036854775807 then ((impl_halves.f ((a0.extract 0 ((ji4) : Int).toNat) ++ (⟨#[48]⟩ : ByteArray))).bind fun bt187 => ((impl_sumOf.f k bt187.1).bind fun t189 => ((impl_sumOf.f k bt187.2).bind fun t190 => ((impl_within.f (wrap64 (t189 - t190)) 0 9).bind fun t191 => (if t191 = true then (some ((([wrap64 (t189 - t190)] : List Int)), true)) else (some (([] : List Int), true))))))) else (none)) else (none)) else (none)) = some (r1, r2) := by first | (rw [hji4] at H; exact H) | (simp only [hji4] at H ⊢; exact H)
   (try rw [hji4] at A2)
   have hji4w : (IntKind.i64.wrap ((a0.size : Int) - 1)) = ji4 := (i64_w _).trans hji4
   by_cases c5 : 0 ≤ (ji4)
   rotate_left
   · exact none_ (if_neg c5) H
   rw [if_pos c5] at H
   have c5b0 := eq_true c5
   have c5b1 : decide (0 ≤ (ji4)) = true := decide_eq_true c5
   clear c5
   by_cases c6 : (ji4) ≤ (a0.size : Int)
   rotate_left
   · exact none_ (if_neg c6) H
   rw [if_pos c6] at H
   have c6b0 := eq_true c6
   have c6b1 : decide ((ji4) ≤ (a0.size : Int)) = true := decide_eq_true c6
   clear c6
   by_cases c7 : (a0.extract 0 ((ji4) : Int).toNat).size + 1 ≤ 9223372036854775807
   rotate_left
   · exact none_ (if_neg c7) H
   rw [if_pos c7] at H
   have c7b0 := eq_true c7
   have c7b1 : decide ((a0.extract 0 ((ji4) : Int).toNat).size + 1 ≤ 9223372036854775807) = true := decide_eq_true c7
   try have c7b2 : (9223372036854775807 < (a0.extract 0 ((ji4) : Int).toNat).size + 1) = False := eq_false (Nat.not_lt.2 c7)
   try have c7b4 : (9223372036854775807 < ji4.toNat + 1) = False := eq_false (Nat.not_lt.2 (by have h_ := c7; rw [ByteArray.size_extract] at h_; first | omega | (have g_ := of_eq_true (by assumption : (ji4 ≤ (a0.size : Int)) = True); omega)))
   replace H := Option.bind_eq_some_iff.mp H
   obtain ⟨⟨t187, t188⟩, A80, H⟩ := H
   dsimp only at H
   have A8 := Aside0.mk A80
   clear A80
   replace H := Option.bind_eq_some_iff.mp H
   obtain ⟨t189, A90, H⟩ := H
   have A9 := Aside0.mk A90
   clear A90
   replace H := Option.bind_eq_some_iff.mp H
   obtain ⟨t190, A100, H⟩ := H
   have A10 := Aside0.mk A100
   clear A100
   replace H := Option.bind_eq_some_iff.mp H
   obtain ⟨t191, A110, H⟩ := H
   have A11 := Aside0.mk A110
   clear A110
   by_cases c12 : t191 = true
   · subst c12
     have H1 : (some ((([wrap64 (t189 - t190)] : List Int)), true)) = some (r1, r2) := by rw [if_pos rfl] at H; exact H
     clear H
     have H := H1
     clear H1
     obtain ⟨y192, hy192⟩ : ∃ y_ : List Int, y_ = (([wrap64 (t189 - t190)] : List Int)) := ⟨_, rfl⟩
     replace H : (some (y192, true)) = some (r1, r2) := by first | (rw [hy192]; with_reducible exact H) | (have H2_ := (Option.bind_some _ _).symm.trans H; rw [hy192]; with_reducible exact H2_) | (have H2_ := (Option.bind_some _ _).symm.trans H; with_reducible exact H2_) | with_reducible exact H | (rw [hy192]; exact H) | exact H
     have Ny192 := Aside0.mk hy192
     clear hy192
     simp only [Option.some.injEq, Prod.mk.injEq] at H
     obtain ⟨rfl, rfl⟩ := H
     go_enter Tryz.func16, Tryz.ntmps16
     go_wp2_with (first | ((with_reducible refine gate_callee (f := 36) rfl ?_); refine goesL_ (some 8) rfl rfl Tryz.func36 (by kernel_rfl) rfl #[.string a0] rfl z4_0_ ?_; (with_reducible refine (impl_IsTicket.calls k a0 true _ A2.out).mono ?_); rintro e w' ⟨rfl, ⟨nd, rfl⟩⟩; refine ⟨_, rfl, ?_⟩) | ((with_reducible refine gate_callee (f := 37) rfl ?_); refine goesL_ (some 17) rfl rfl Tryz.func37 (by kernel_rfl) rfl #[.string ((a0.extract 0 ((ji4) : Int).toNat) ++ (⟨#[48]⟩ : ByteArray))] rfl (by (try simp only [List.map_toArray, List.map_cons, List.map_nil]); first | done | (simp only [hji4]; rfl) | rfl | (simp only [List.length_drop, List.length_take]; rfl)) ?_; (with_reducible refine (impl_halves.calls ((a0.extract 0 ((ji4) : Int).toNat) ++ (⟨#[48]⟩ : ByteArray)) t187 t188 _ A8.out).mono ?_); rintro e w' ⟨rfl, ⟨nd, rfl⟩⟩; refine ⟨_, rfl, ?_⟩) | ((with_reducible refine gate_callee (f := 38) rfl ?_); refine goesL_ (some 21) rfl rfl Tryz.func38 (by kernel_rfl) rfl #[.string t187] rfl z4_0_ ?_; (with_reducible refine (impl_sumOf.calls k t187 t189 _ A9.out).mono ?_); rintro e w' ⟨rfl, ⟨nd, rfl⟩⟩; refine ⟨_, rfl, ?_⟩) | ((with_reducible refine gate_callee (f := 38) rfl ?_); refine goesL_ (some 23) rfl rfl Tryz.func38 (by kernel_rfl) rfl #[.string t188] rfl z4_0_ ?_; (with_reducible refine (impl_sumOf.calls k t188 t190 _ A10.out).mono ?_); rintro e w' ⟨rfl, ⟨nd, rfl⟩⟩; refine ⟨_, rfl, ?_⟩) | ((with_reducible refine gate_callee (f := 43) rfl ?_); refine goesL_ (some 26) rfl rfl Tryz.func43 (by kernel_rfl) rfl #[.int .i64 (wrap64 (t189 - t190)), .int .i64 0, .int .i64 9] rfl z4_0_ ?_; (with_reducible refine (impl_within.calls (wrap64 (t189 - t190)) 0 9 true _ A11.out).mono ?_); rintro e w' ⟨rfl, ⟨nd, rfl⟩⟩; refine ⟨_, rfl, ?_⟩) | ((with_reducible refine gate_dst (N := 28) rfl ?_); refine Kd.R_lit (Kd.int .i64) _ 3 ?hg (N := 28) ?hd (xs := ([wrap64 (t189 - t190)] : List Int)) (inner := [.int .i64 (wrap64 (t189 - t190))]) (ok := fun _ => True) (okp := fun _ => True) ?hr ?hp (fun _ hk => hk) trivial (Below.refl _ _) (Nat.le_refl _) (by simp) ?_; (case hd => rfl); (case hg => rfl); (case hr => first | (go_simp; done) | (go_simp; rfl)); (case hp => exact (Reps.one (show Kd.M (Kd.int .i64) _ _ _ (wrap64 (t189 - t190)) [.int .i64 (wrap64 (t189 - t190))] from rfl) (Reps.none _ _))); intro v193 w13 ho14 hb hg_ hnew_; clear hg_ hnew_; (first | rw [← Ny192.out] at ho14 | (simp only [Int.reduceToNat] at ho14; rw [← Ny192.out] at ho14)); have n0_ := Aside0.mk (Kd.R_lower ho14 (below_size z4_1_)); have n1_ := Aside0.mk (below_step z4_1_ hb); clear HB; have HO194 := n0_; have HB := n1_; clear n0_ n1_; clear hb ho14))
     go_ret2
     exact ⟨_, by first | rfl | (simp [errW_none, errW_some] <;> rfl) | (simp only [← hji4]; first | rfl | (simp [errW_none, errW_some] <;> rfl)) | (simp [*, errW_none, errW_some] <;> rfl), by (with_reducible repeat (first | apply Kd.R_alloc | apply Kd.R_drewN | apply Kd.R_drew)); exact HO194.out, by repeat (first | (with_reducible first | exact HB.out | apply below_alloc | apply pw_below_drewN | apply below_drew1) | exact HB.out)⟩
   replace c12 := Bool.eq_false_iff.mpr c12
   subst c12
   have H1 : (some (([] : List Int), true)) = some (r1, r2) := by rw [if_neg (show ¬ (false = true) by decide)] at H; exact H
   clear H
   have H := H1
   clear H1
   simp only [Option.some.injEq, Prod.mk.injEq] at H
   obtain ⟨rfl, rfl⟩ := H
   go_enter Tryz.func16, Tryz.ntmps16
   go_wp2_with (first | ((with_reducible refine gate_callee (f := 36) rfl ?_); refine goesL_ (some 8) rfl rfl Tryz.func36 (by kernel_rfl) rfl #[.string a0] rfl z4_0_ ?_; (with_reducible refine (impl_IsTicket.calls k a0 true _ A2.out).mono ?_); rintro e w' ⟨rfl, ⟨nd, rfl⟩⟩; refine ⟨_, rfl, ?_⟩) | ((with_reducible refine gate_callee (f := 37) rfl ?_); refine goesL_ (some 17) rfl rfl Tryz.func37 (by kernel_rfl) rfl #[.string ((a0.extract 0 ((ji4) : Int).toNat) ++ (⟨#[48]⟩ : ByteArray))] rfl (by (try simp only [List.map_toArray, List.map_cons, List.map_nil]); first | done | (simp only [hji4]; rfl) | rfl | (simp only [List.length_drop, List.length_take]; rfl)) ?_; (with_reducible refine (impl_halves.calls ((a0.extract 0 ((ji4) : Int).toNat) ++ (⟨#[48]⟩ : ByteArray)) t187 t188 _ A8.out).mono ?_); rintro e w' ⟨rfl, ⟨nd, rfl⟩⟩; refine ⟨_, rfl, ?_⟩) | ((with_reducible refine gate_callee (f := 38) rfl ?_); refine goesL_ (some 21) rfl rfl Tryz.func38 (by kernel_rfl) rfl #[.string t187] rfl z4_0_ ?_; (with_reducible refine (impl_sumOf.calls k t187 t189 _ A9.out).mono ?_); rintro e w' ⟨rfl, ⟨nd, rfl⟩⟩; refine ⟨_, rfl, ?_⟩) | ((with_reducible refine gate_callee (f := 38) rfl ?_); refine goesL_ (some 23) rfl rfl Tryz.func38 (by kernel_rfl) rfl #[.string t188] rfl z4_0_ ?_; (with_reducible refine (impl_sumOf.calls k t188 t190 _ A10.out).mono ?_); rintro e w' ⟨rfl, ⟨nd, rfl⟩⟩; refine ⟨_, rfl, ?_⟩) | ((with_reducible refine gate_callee (f := 43) rfl ?_); refine goesL_ (some 26) rfl rfl Tryz.func43 (by kernel_rfl) rfl #[.int .i64 (wrap64 (t189 - t190)), .int .i64 0, .int .i64 9] rfl z4_0_ ?_; (with_reducible refine (impl_within.calls (wrap64 (t189 - t190)) 0 9 false _ A11.out).mono ?_); rintro e w' ⟨rfl, ⟨nd, rfl⟩⟩; refine ⟨_, rfl, ?_⟩))
   go_ret2
   exact ⟨_, by first | rfl | (simp [errW_none, errW_some] <;> rfl) | (simp only [← hji4]; first | rfl | (simp [errW_none, errW_some] <;> rfl)) | (simp [*, errW_none, errW_some] <;> rfl), by first | exact Kd.R_nil _ _ _ _ _ | exact Kd.N_nil _ _ _ _ _ | exact Kd.V_nil _ _ _ _ _ | exact Kd.Q_nil _ _ _ _ _ | exact Kd.S_nil _ _ _ _ _, by repeat (first | (with_reducible first | exact HB.out | apply below_alloc | apply pw_below_drewN | apply below_drew1) | exact HB.out)⟩
 replace c3 := Bool.eq_false_iff.mpr c3
 subst c3
 have H1 : (some (([] : List Int), false)) = some (r1, r2) := by rw [if_neg (show ¬ (false = true) by decide)] at H; exact H
 clear H
 have H := H1
 clear H1
 simp only [Option.some.injEq, Prod.mk.injEq] at H
 obtain ⟨rfl, rfl⟩ := H
 go_enter Tryz.func16, Tryz.ntmps16
 go_wp2_with (first | ((with_reducible refine gate_callee (f := 36) rfl ?_); refine goesL_ (some 8) rfl rfl Tryz.func36 (by kernel_rfl) rfl #[.string a0] rfl z4_0_ ?_; (with_reducible refine (impl_IsTicket.calls k a0 false _ A2.out).mono ?_); rintro e w' ⟨rfl, ⟨nd, rfl⟩⟩; refine ⟨_, rfl, ?_⟩))
 go_ret2
 exact ⟨_, by first | rfl | (simp [errW_none, errW_some] <;> rfl) | (simp [*, errW_none, errW_some] <;> rfl), by first | exact Kd.R_nil _ _ _ _ _ | exact Kd.N_nil _ _ _ _ _ | exact Kd.V_nil _ _ _ _ _ | exact Kd.Q_nil _ _ _ _ _ | exact Kd.S_nil _ _ _ _ _, by repeat (first | (with_reducible first | exact HB.out | apply below_alloc | apply pw_below_drewN | apply below_drew1) | exact HB.out)⟩

/-! ### spec_tkLucky: function 44 -/
def spec_tkLucky.f (k : Nat) (a0 : ByteArray) : Option (Bool) := (spec_tkHalves.f k a0).bind fun bt195 => (some (bt195.1 == bt195.2))
theorem spec_tkLucky.mono : ∀ a0 k, LeO (spec_tkLucky.f k a0) (spec_tkLucky.f (k + 1) a0) := by
 intro a0 k
 unfold spec_tkLucky.f
 repeat' first
  | (with_reducible exact spec_tkHalves.mono _ _)
  | (with_reducible exact LeO.refl _)
  | (with_reducible exact LeO.none _)
  | (with_reducible refine LeO.ite ?_ ?_)
  | (with_reducible refine LeO.bind ?_ (fun _ => ?_))
  | exact spec_tkHalves.mono _ _
  | exact LeO.none _
  | refine LeO.ite ?_ ?_
  | refine LeO.bind ?_ (fun _ => ?_)
set_option maxHeartbeats 8000000 in
set_option maxRecDepth 100000 in
theorem spec_tkLucky.calls (k : Nat) (a0 : ByteArray) (r : Bool) (w : World) (h : spec_tkLucky.f k a0 = some r) :
 Calls Tryz.prog 44 #[.string a0] w fun e w' => e = .returned (.bool r) ∧ Drawn0 w w' := by
 have H : ((spec_tkHalves.f k a0).bind fun bt195 => (some (bt195.1 == bt195.2))) = some r := h
 clear h
 replace H := Option.bind_eq_some_iff.mp H
 obtain ⟨⟨t195, t196⟩, A20, H⟩ := H
 dsimp only at H
 have A2 := Aside0.mk A20
 clear A20
 obtain rfl := Option.some.inj H
 go_enter Tryz.func44, Tryz.ntmps44
 go_wp2_with (first | ((with_reducible refine gate_callee (f := 40) rfl ?_); refine goesL_ (some 7) rfl rfl Tryz.func40 (by kernel_rfl) rfl #[.string a0] rfl z4_0_ ?_; (with_reducible refine (spec_tkHalves.calls k a0 t195 t196 _ A2.out).mono ?_); rintro e w' ⟨rfl, ⟨nd, rfl⟩⟩; refine ⟨_, rfl, ?_⟩))
 go_ret
 exact ⟨by first | rfl | (simp; done) | (simp [*]; done), by repeat (first | exact Drawn0.refl _ | apply Drawn0.step)⟩

end Go.Proofs.YtlgpjilhjfkmbaaGreatDoor.PFnTicketsTurned

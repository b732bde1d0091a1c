-- Laid by this session's program gprint.py over the kit's print.
import Derived.Test.YtmfbjhkhgkphcaaGreatDoorSq
import Derived.Test.YtmfbjhkhgkphcaaGreatDoorZip
import Derived.Test.YtmfbjhkhgkphcaaGreatDoorPFnTicketsGuessedx6
import Derived.Test.YtmfbjhkhgkphcaaGreatDoorPFnTicketsGuessedx10
namespace Go.Proofs.YtmfbjhkhgkphcaaGreatDoor.PFnTicketsGuessed
open Go.RowKit Go.Proofs.YtmfbjhkhgkphcaaGreatDoorW.PrintWords Go.Proofs.YtmfbjhkhgkphcaaGreatDoorW.PrintLast Go.Proofs.YtmfbjhkhgkphcaaGreatDoorW.PrintMore
attribute [local go_sem] max2_int min2_int max_two min_two max_three min_three max_four min_four   -- for this text's walks alone
set_option linter.unusedVariables false
set_option linter.unusedSimpArgs false
set_option maxHeartbeats 8000000
set_option maxRecDepth 100000
theorem zs15_0 {p : Prop} (h : p := by repeat (first | (with_reducible first | exact HB.out | apply below_alloc | apply pw_below_drewN | apply below_drew1 | refine below_set ?_ GE296.out) | exact HB.out)) : p := h
theorem zs15_1 {p : Prop} (h : p := by rw [HX.out]; exact impl_SureDigits.succv_ i (by have := HID.out; omega)) : p := h
theorem zs15_2 {p : Prop} (h : p := by repeat (first | (with_reducible first | exact HB.out | apply below_alloc | apply pw_below_drewN | apply below_drew1 | refine below_set ?_ GE302.out) | exact HB.out)) : p := h
theorem zs15_3 {p : Prop} (h : p := by have := HK1.out; have := HK2.out; omega) : p := h
theorem zs15_4 {p : Prop} (h : p := by repeat (first | (with_reducible first | exact HB.out | apply below_alloc | apply pw_below_drewN | apply below_drew1 | refine below_set ?_ GE315.out) | exact HB.out)) : p := h
theorem zs15_5 {p : Prop} (h : p := by first | rfl | (simp [errW_none, errW_some] <;> rfl) | (simp [*, errW_none, errW_some] <;> rfl)) : p := h
theorem zs15_6 {p : Prop} (h : p := by first | exact Kd.R_nil _ _ _ _ _ | exact Kd.N_nil _ _ _ _ _ | exact Kd.V_nil _ _ _ _ _ | exact Kd.Q_nil _ _ _ _ _ | exact Kd.S_nil _ _ _ _ _) : p := h
theorem zs15_7 {p : Prop} (h : p := by repeat (first | (with_reducible first | exact HB.out | apply below_alloc | apply pw_below_drewN | apply below_drew1 | refine below_set ?_ GE318.out) | exact HB.out)) : p := h
theorem zs15_8 {p : Prop} (h : p := by exact rr_ HO_4.out) : p := h
theorem zs15_9 {p : Prop} (h : p := by have := HK1.out; omega) : p := h
theorem zs15_10 {p : Prop} (h : p := by repeat (first | (with_reducible first | exact HB.out | apply below_alloc | apply pw_below_drewN | apply below_drew1 | refine below_set ?_ GE352.out) | exact HB.out)) : p := h
theorem zs15_11 {p : Prop} (h : p := by repeat (first | (with_reducible first | exact HB.out | apply below_alloc | apply pw_below_drewN | apply below_drew1 | refine below_set ?_ GE366.out) | exact HB.out)) : p := h
theorem zs15_12 {p : Prop} (h : p := by repeat (first | (with_reducible first | exact HB.out | apply below_alloc | apply pw_below_drewN | apply below_drew1 | refine below_set ?_ GE381.out) | exact HB.out)) : p := h
theorem zs15_13 {p : Prop} (h : p := by first | omega | exact Nat.le_refl _) : p := h
theorem zs15_14 {p : Prop} (h : p := by repeat (first | (with_reducible first | exact HB.out | apply below_alloc | apply pw_below_drewN | apply below_drew1 | refine below_set ?_ GE393.out) | exact HB.out)) : p := h
theorem zs15_15 {p : Prop} (h : p := by have := HJ1.out; have := HK2.out; omega) : p := h
theorem zs15_16 {p : Prop} (h : p := by repeat (first | (with_reducible first | exact HB.out | apply below_alloc | apply pw_below_drewN | apply below_drew1 | refine below_set ?_ GE393.out | refine below_set ?_ GE396.out) | exact HB.out)) : p := h
theorem zs15_17 {p : Prop} (h : p := by repeat (first | (with_reducible first | exact HB.out | apply below_alloc | apply pw_below_drewN | apply below_drew1 | refine below_set ?_ GE403.out) | exact HB.out)) : p := h
theorem zs15_18 {p : Prop} (h : p := by repeat (first | (with_reducible first | exact HB.out | apply below_alloc | apply pw_below_drewN | apply below_drew1 | refine below_set ?_ GE412.out) | exact HB.out)) : p := h
theorem zs15_19 {p : Prop} (h : p := by repeat (first | (with_reducible first | exact HB.out | apply below_alloc | apply pw_below_drewN | apply below_drew1 | refine below_set ?_ GE412.out | refine below_set ?_ GE417.out) | exact HB.out)) : p := h
theorem zs15_20 {p : Prop} (h : p := by repeat (first | (with_reducible first | exact HB.out | apply below_alloc | apply pw_below_drewN | apply below_drew1 | refine below_set ?_ GE425.out) | exact HB.out)) : p := h
theorem zs15_21 {p : Prop} (h : p := by repeat (first | (with_reducible first | exact HB.out | apply below_alloc | apply pw_below_drewN | apply below_drew1 | refine below_set ?_ GE428.out) | exact HB.out)) : p := h
theorem zs15_22 {p : Prop} (h : p := by refine b_ ?_; refine blk_far ?_ NB428_430.out _; refine b_ ?_; refine blk_far ?_ NB428_430.out _; refine b_ ?_; refine blk_far ?_ NB428_430.out _; exact b_ BK428.out) : p := h
theorem zs15_23 {p : Prop} (h : p := by refine b_ ?_; refine blk_put (cs := #[.int .i64 ((rd_T46 l0_0 x9_1).f0), .int .i64 ((rd_T46 l0_0 x9_1).f1), .int .i64 0]) ?_ 2 _ rfl; refine b_ ?_; refine blk_put (cs := #[.int .i64 ((rd_T46 l0_0 x9_1).f0), .int .i64 0, .int .i64 0]) ?_ 1 _ rfl; refine b_ ?_; refine blk_put (cs := #[.int .i64 0, .int .i64 0, .int .i64 0]) ?_ 0 _ rfl; exact b_ BK430.out) : p := h
theorem zs15_24 {p : Prop} (h : p := by repeat (first | (with_reducible first | exact HB.out | apply below_alloc | apply pw_below_drewN | apply below_drew1 | refine below_set ?_ GE428.out | refine below_set ?_ GE430.out) | exact HB.out)) : p := h
theorem zs15_25 {p : Prop} (h : p := by repeat (first | (with_reducible first | exact HB.out | apply below_alloc | apply pw_below_drewN | apply below_drew1 | refine below_set ?_ GE437.out) | exact HB.out)) : p := h
theorem zs15_26 {p : Prop} (h : p := by first | rfl | (simp; done) | (simp [*]; done)) : p := h
theorem zs15_27 {p : Prop} (h : p := by repeat (first | exact Drawn0.refl _ | apply Drawn0.step)) : p := h
theorem zq15_0_ {p : Prop} (h : p := by simpa only [ByteArray.size_append, lit_size_, List.size_toArray, List.length_cons, List.length_nil, Nat.zero_add, Nat.reduceAdd] using c15) : p := h
theorem zq15_1_ {p : Prop} (h : p := by simpa only [ByteArray.size_append, lit_size_, List.size_toArray, List.length_cons, List.length_nil, Nat.zero_add, Nat.reduceAdd] using c13) : p := h
theorem zq15_2_ {p : Prop} (h : p := by simpa only [ByteArray.size_append, lit_size_, List.size_toArray, List.length_cons, List.length_nil, Nat.zero_add, Nat.reduceAdd] using c12) : p := h
theorem zq15_3_ {p : Prop} (h : p := by rw [Ny405.out, List.length_drop, List.length_take] <;> omega) : p := h
theorem zc15_0_ {p : Prop} (h : p := by exact (Reps.c3 (show Kd.M k46 _ _ _ (⟨(rd_T46 l0_0 x21_2).f0, (rd_T46 l0_0 x21_2).f1, (rd_T46 l0_0 x21_2).f2⟩ : S46) [.int .i64 ((rd_T46 l0_0 x21_2).f0), .int .i64 ((rd_T46 l0_0 x21_2).f1), .int .i64 ((rd_T46 l0_0 x21_2).f2)] from (k46_mkM _ _ _ (⟨(rd_T46 l0_0 x21_2).f0, (rd_T46 l0_0 x21_2).f1, (rd_T46 l0_0 x21_2).f2⟩ : S46) )) (Reps.none _ _))) : p := h
theorem zc15_1_ {p : Prop} (h : p := by repeat (first | exact (Kd.C_below HR0_0.out HB.out) | (with_reducible refine Kd.C_alloc ?_ _) | (with_reducible refine Kd.C_drewN ?_ _) | (with_reducible refine Kd.C_drew ?_))) : p := h
theorem zc15_2_ {p : Prop} (h : p := by repeat (first | exact (Kd.C_below HR408.out HB.out) | (with_reducible refine Kd.C_alloc ?_ _) | (with_reducible refine Kd.C_drewN ?_ _) | (with_reducible refine Kd.C_drew ?_))) : p := h
theorem zc15_3_ {p : Prop} (h : p := by repeat (first | exact (Kd.R_reads' HO328.out).2.2 | (with_reducible refine Kd.C_alloc ?_ _) | (with_reducible refine Kd.C_drewN ?_ _) | (with_reducible refine Kd.C_drew ?_))) : p := h
theorem zc15_4_ {p : Prop} (h : p := by repeat (first | exact (Kd.R_reads' HO359.out).2.2 | (with_reducible refine Kd.C_alloc ?_ _) | (with_reducible refine Kd.C_drewN ?_ _) | (with_reducible refine Kd.C_drew ?_))) : p := h
theorem zc15_5_ {p : Prop} (h : p := by repeat (first | exact (Kd.R_reads' HO399.out).2.2 | (with_reducible refine Kd.C_alloc ?_ _) | (with_reducible refine Kd.C_drewN ?_ _) | (with_reducible refine Kd.C_drew ?_))) : p := h
theorem zc15_6_ {p : Prop} (h : p := by first | (go_simp; done) | (go_simp; rfl)) : p := h
theorem z11_1_ {p : Prop} (h : p := by (try simp only [List.map_toArray, List.map_cons, List.map_nil]); first | done | rfl | (simp only [List.length_drop, List.length_take]; rfl)) : p := h
theorem z11_2_ {p : Prop} (h : p := by repeat (first | (with_reducible first | exact HB.out | apply below_alloc | apply pw_below_drewN | apply below_drew1 | refine below_set ?_ GE296.out) | exact HB.out)) : p := h
theorem z11_3_ {p : Prop} (h : p := by repeat (first | (with_reducible first | exact HB.out | apply below_alloc | apply pw_below_drewN | apply below_drew1 | refine below_set ?_ GE302.out) | exact HB.out)) : p := h
theorem z11_4_ {p : Prop} (h : p := by exact b_ BK296.out) : p := h
theorem z11_5_ {p : Prop} (h : p := by exact b_ BK302.out) : p := h
theorem z11_6_ {p : Prop} (h : p := by repeat (first | (with_reducible first | exact HB.out | apply below_alloc | apply pw_below_drewN | apply below_drew1 | refine below_set ?_ GE315.out) | exact HB.out)) : p := h
theorem z11_8_ {p : Prop} (h : p := by exact b_ BK315.out) : p := h

/-! ### spec_FirstSolution: function 11 -/
def spec_FirstSolution.f (k : Nat) (l0_0 : List (S46)) : Option (ByteArray × Bool) := (spec_pzGood.f k l0_0).bind fun t297 => (if t297 = true then ((spec_pzAll.f k l0_0).bind fun t298 => (if (t298.length : Int) = 0 then (some ((⟨#[]⟩ : ByteArray), false)) else (if 0 < (t298.length : Int) then (some (rdOf ByteArray.empty t298 0, true)) else (none)))) else (some ((⟨#[]⟩ : ByteArray), false)))
theorem spec_FirstSolution.mono : ∀ a0 k, LeO (spec_FirstSolution.f k a0) (spec_FirstSolution.f (k + 1) a0) := by
 intro a0 k
 unfold spec_FirstSolution.f
 have m1_ := @spec_pzAll.mono
 have m2_ := @spec_pzGood.mono
 exact zM_
theorem spec_FirstSolution.calls (k : Nat) (A0_0 : Option Addr) (c0_0 : Nat) (l0_0 : List (S46)) (r1 : ByteArray) (r2 : Bool) (w : World) (hr0_0 : Kd.C k46 w A0_0 l0_0.length l0_0) (hc0_0 : l0_0.length ≤ c0_0) (h : spec_FirstSolution.f k l0_0 = some (r1, r2)) :
 Calls Tryz.prog 11 #[.agg #[.slice A0_0 l0_0.length c0_0]] w fun e w' => e = .returned (.tuple #[.string r1, .bool r2]) ∧ Below w.heap.size w w' := by
 have hu26 := Tryz.underlying26
 have HR0_0 := Aside0.mk hr0_0
 have HC0_0 := Aside0.mk hc0_0
 clear hr0_0 hc0_0
 have HB := Aside0.mk (Below.refl w.heap.size w)
 unfold spec_FirstSolution.f at h
 have H := h
 clear h
 replace H := bd_ H; obtain ⟨t297, A2, H⟩ := H
 by_cases c3 : t297 = true
 rotate_left
 · replace H := bf_ c3 H; obtain ⟨rfl, H⟩ := H
   simp only [Option.some.injEq, Prod.mk.injEq] at H
   obtain ⟨rfl, rfl⟩ := H
   go_enter Tryz.func11, Tryz.ntmps11
   go_wp2_with (first | (refine bx_ 1 #[.slice A0_0 l0_0.length c0_0] 26 ?_; intro gb296 hg w19 hbox hb; have BK296 := Aside0.mk (hbox); have GW296 : Aside0 (w.heap.size ≤ gb296) := bs_ hg zB_; have GE296 := GW296; replace HB := Aside0.mk (below_step zB_ hb); clear hb hbox hg; have hcz20_0 : w19.cell? ⟨gb296, 0, none⟩ = some (.slice A0_0 l0_0.length c0_0) := (blk_cell BK296.out 0).trans rfl; have hfz20_0 := blk_frozen BK296.out 0) | ((with_reducible refine gc_ 39 rfl ?_); refine gL_ 6 Tryz.func39 #[.agg #[.slice A0_0 l0_0.length c0_0]] ?_; (with_reducible refine (spec_pzGood.calls k _ _ l0_0 false _ ?side1 ?side2 A2.out).mono ?_); (case side1 => exact zc15_1_); (case side2 => exact HC0_0.out); rintro e w21 ⟨rfl, hb⟩; refine ⟨_, rfl, ?_⟩; replace BK296 := bb_ BK296 z11_4_ hb; replace HB := Aside0.mk (below_step z11_2_ hb)))
   go_ret2
   exact ⟨zR_, zs15_0⟩
 subst c3
 rw [if_pos rfl] at H
 replace H := bd_ H; obtain ⟨t298, A4, H⟩ := H
 by_cases c5 : (t298.length : Int) = 0
 · obtain ⟨H, c5b0, c5b1⟩ := ep_ c5 H
   clear c5
   simp only [Option.some.injEq, Prod.mk.injEq] at H
   obtain ⟨rfl, rfl⟩ := H
   go_enter Tryz.func11, Tryz.ntmps11
   go_wp2_with (first | (refine bx_ 1 #[.slice A0_0 l0_0.length c0_0] 26 ?_; intro gb296 hg w6 hbox hb; have BK296 := Aside0.mk (hbox); have GW296 : Aside0 (w.heap.size ≤ gb296) := bs_ hg zB_; have GE296 := GW296; replace HB := Aside0.mk (below_step zB_ hb); clear hb hbox hg; have hcz7_0 : w6.cell? ⟨gb296, 0, none⟩ = some (.slice A0_0 l0_0.length c0_0) := (blk_cell BK296.out 0).trans rfl; have hfz7_0 := blk_frozen BK296.out 0) | ((with_reducible refine gc_ 39 rfl ?_); refine gL_ 6 Tryz.func39 #[.agg #[.slice A0_0 l0_0.length c0_0]] ?_; (with_reducible refine (spec_pzGood.calls k _ _ l0_0 true _ ?side1 ?side2 A2.out).mono ?_); (case side1 => exact zc15_1_); (case side2 => exact HC0_0.out); rintro e w8 ⟨rfl, hb⟩; refine ⟨_, rfl, ?_⟩; replace BK296 := bb_ BK296 z11_4_ hb; replace HB := Aside0.mk (below_step z11_2_ hb); have hcz9_0 : w8.cell? ⟨gb296, 0, none⟩ = some (.slice A0_0 l0_0.length c0_0) := (blk_cell BK296.out 0).trans rfl; have hfz9_0 := blk_frozen BK296.out 0) | ((with_reducible refine gc_ 40 rfl ?_); refine gL_ 10 Tryz.func40 #[.slice A0_0 l0_0.length c0_0] ?_; (with_reducible refine (spec_pzAll.calls k _ _ l0_0 t298 _ ?side1 ?side2 A4.out).mono ?_); (case side1 => exact zc15_1_); (case side2 => exact HC0_0.out); rintro e w10 ⟨v299, rfl, ho0, hb⟩; refine ⟨_, rfl, ?_⟩; have HO300 := Aside0.mk (Kd.R_lower ho0 (below_size z11_2_)); replace BK296 := bb_ BK296 z11_4_ hb; replace HB := Aside0.mk (below_step z11_2_ hb); obtain ⟨Ao11, co11, eo11⟩ := Kd.R_slice HO300.out; subst eo11))
   go_ret2
   exact ⟨zR_, zs15_0⟩
 obtain ⟨H, c5b0, c5b1⟩ := en_ c5 H
 have c5b2 : ¬ (t298 = []) := fun h_ => c5 (by rw [h_]; rfl)
 replace H := gd_ H; obtain ⟨c12, H⟩ := H
 have c12b0 : decide (0 < (t298.length : Int)) = true := decide_eq_true c12
 have c12b1 : decide (0 < t298.length) = true := decide_eq_true (by omega)
 clear c12
 simp only [Option.some.injEq, Prod.mk.injEq] at H
 obtain ⟨rfl, rfl⟩ := H
 go_enter Tryz.func11, Tryz.ntmps11
 go_wp2_with (first | (refine bx_ 1 #[.slice A0_0 l0_0.length c0_0] 26 ?_; intro gb296 hg w13 hbox hb; have BK296 := Aside0.mk (hbox); have GW296 : Aside0 (w.heap.size ≤ gb296) := bs_ hg zB_; have GE296 := GW296; replace HB := Aside0.mk (below_step zB_ hb); clear hb hbox hg; have hcz14_0 : w13.cell? ⟨gb296, 0, none⟩ = some (.slice A0_0 l0_0.length c0_0) := (blk_cell BK296.out 0).trans rfl; have hfz14_0 := blk_frozen BK296.out 0) | ((with_reducible refine gc_ 39 rfl ?_); refine gL_ 6 Tryz.func39 #[.agg #[.slice A0_0 l0_0.length c0_0]] ?_; (with_reducible refine (spec_pzGood.calls k _ _ l0_0 true _ ?side1 ?side2 A2.out).mono ?_); (case side1 => exact zc15_1_); (case side2 => exact HC0_0.out); rintro e w15 ⟨rfl, hb⟩; refine ⟨_, rfl, ?_⟩; replace BK296 := bb_ BK296 z11_4_ hb; replace HB := Aside0.mk (below_step z11_2_ hb); have hcz16_0 : w15.cell? ⟨gb296, 0, none⟩ = some (.slice A0_0 l0_0.length c0_0) := (blk_cell BK296.out 0).trans rfl; have hfz16_0 := blk_frozen BK296.out 0) | ((with_reducible refine gc_ 40 rfl ?_); refine gL_ 10 Tryz.func40 #[.slice A0_0 l0_0.length c0_0] ?_; (with_reducible refine (spec_pzAll.calls k _ _ l0_0 t298 _ ?side1 ?side2 A4.out).mono ?_); (case side1 => exact zc15_1_); (case side2 => exact HC0_0.out); rintro e w17 ⟨v299, rfl, ho0, hb⟩; refine ⟨_, rfl, ?_⟩; have HO300 := Aside0.mk (Kd.R_lower ho0 (below_size z11_2_)); replace BK296 := bb_ BK296 z11_4_ hb; replace HB := Aside0.mk (below_step z11_2_ hb); obtain ⟨Ao18, co18, eo18⟩ := Kd.R_slice HO300.out; subst eo18; have p301 : 0 ≤ (0 : Int) := (by omega); have q301 : 0 < (t298.length : Int) := of_decide_eq_true zS_; obtain ⟨ad301, e301, hx301_0⟩ := Kd.at_string (Kd.R_reads' HO300.out).2.2 0 p301 q301; cases e301; have qi301 : (0 < t298.length) = True := eq_true (by omega); (try rw [show ((0 : Int)).toNat = 0 from rfl] at hx301_0); (try rw [Addr.add_zero'] at hx301_0); replace p301 := eq_true p301; replace q301 := eq_true q301))
 go_ret2
 exact ⟨zR_, zs15_0⟩

/-! ### impl_SureDigits: function 12 -/
-- behind 6 96
def impl_SureDigits.cell (h t : ByteArray) (i : Nat) (o : List Int) : List Int := if bt t (i : Int) = bt h (i : Int) then o else o.set i 63
def impl_SureDigits.row (h t : ByteArray) : Nat → Nat → List Int → List Int
 | 0, _, o => o
 | d + 1, i, o => impl_SureDigits.row h t d (i + 1) (impl_SureDigits.cell h t i o)
def impl_SureDigits.all (h : ByteArray) : List ByteArray → List Int → List Int
 | [], o => o
 | t :: r, o => impl_SureDigits.all h r (impl_SureDigits.row h t 4 0 o)
def impl_SureDigits.f (k : Nat) (l0_0 : List (S46)) : Option (ByteArray × Bool) := (impl_Solutions.f k l0_0).bind fun bt => if (bt.1.length : Int) = 0 then some ((⟨#[]⟩ : ByteArray), false) else (if bt.1.all (fun t => t.size == 4) = true then some (strOfNums (impl_SureDigits.all (rdOf ByteArray.empty bt.1 0) bt.1 (bytesOf (rdOf ByteArray.empty bt.1 0))), true) else none)
theorem impl_SureDigits.mono : ∀ a0 k, LeO (impl_SureDigits.f k a0) (impl_SureDigits.f (k + 1) a0) := by
 intro a0 k
 unfold impl_SureDigits.f
 exact LeO.bind (impl_Solutions.mono _ _) (fun _ => LeO.refl _)
theorem impl_SureDigits.succv_ (n : Nat) (h : n < 9223372036854775807) : Value.int .i64 (wrap64 ((n : Int) + 1)) = Value.int .i64 ((n + 1 : Nat) : Int) := by
 have : wrap64 ((n : Int) + 1) = ((n + 1 : Nat) : Int) := by simp [wrap64]; omega
 rw [this]
theorem impl_SureDigits.cell_len (h t : ByteArray) (i : Nat) (o : List Int) : (impl_SureDigits.cell h t i o).length = o.length := by
 unfold impl_SureDigits.cell; split <;> simp
theorem impl_SureDigits.calls (k : Nat) (A0_0 : Option Addr) (c0_0 : Nat) (l0_0 : List (S46)) (r1 : ByteArray) (r2 : Bool) (w : World) (hr0_0 : Kd.C k46 w A0_0 l0_0.length l0_0) (hc0_0 : l0_0.length ≤ c0_0) (h : impl_SureDigits.f k l0_0 = some (r1, r2)) :
 Calls Tryz.prog 12 #[.agg #[.slice A0_0 l0_0.length c0_0]] w fun e w' => e = .returned (.tuple #[.string r1, .bool r2]) ∧ Below w.heap.size w w' := by
 have hu := Tryz.underlying26
 have HR0 := Aside0.mk hr0_0
 have HC0 := Aside0.mk hc0_0
 have HB := Aside0.mk (Below.refl w.heap.size w)
 unfold impl_SureDigits.f at h
 obtain ⟨⟨sl, ok⟩, hs, h⟩ := Option.bind_eq_some_iff.mp h
 dsimp only at h
 have HS := Aside0.mk hs
 clear hr0_0 hc0_0 hs
 by_cases c0 : (sl.length : Int) = 0
 · rw [if_pos c0] at h
   simp only [Option.some.injEq, Prod.mk.injEq] at h
   obtain ⟨rfl, rfl⟩ := h
   have c1 : ((sl.length : Int) == 0) = true := beq_iff_eq.mpr c0
   clear c0
   go_enter Tryz.func12, Tryz.ntmps12
   go_wp2_with (first | (refine bx_ 1 #[.slice A0_0 l0_0.length c0_0] 26 ?_; intro gb hg w4 hbox hb; have HB1 := Aside0.mk hb; have hz : w4.cell? ⟨gb, 0, none⟩ = some (.slice A0_0 l0_0.length c0_0) := (blk_cell hbox 0).trans rfl; clear hb hbox hg) | (go_at_call 6; (with_reducible refine (impl_Solutions.calls k A0_0 c0_0 l0_0 sl ok _ (Kd.C_below HR0.out HB1.out) HC0.out HS.out).mono ?_); rintro e w6 ⟨v, rfl, ho, hb⟩; have HB2 := Aside0.mk (below_step HB1.out hb); obtain ⟨AL, cL, rfl⟩ := Kd.R_slice ho; clear ho hb))
   go_ret2
   exact ⟨rfl, HB2.out⟩
 rw [if_neg c0] at h
 by_cases ha : sl.all (fun t => t.size == 4) = true
 rotate_left
 · exact none_ (if_neg ha) h
 rw [if_pos ha] at h
 simp only [Option.some.injEq, Prod.mk.injEq] at h
 obtain ⟨rfl, rfl⟩ := h
 have hp : 0 < sl.length := by omega
 have h4 : ∀ j : Nat, j < sl.length → (rdOf ByteArray.empty sl (j : Int)).size = 4 := fun j hj => by
  have := List.all_eq_true.mp ha (sl[j]) (List.getElem_mem hj)
  unfold rdOf
  rw [Int.toNat_natCast, List.getD_eq_getElem?_getD, List.getElem?_eq_getElem hj]
  exact eq_of_beq this
 have H4 := Aside0.mk h4
 have HP := Aside0.mk hp
 have c1 : ((sl.length : Int) == 0) = false := beq_eq_false_iff_ne.mpr c0
 have p0 : (0 < (sl.length : Int)) = True := eq_true (by omega)
 obtain ⟨hd, hhd⟩ : ∃ hd, hd = rdOf ByteArray.empty sl 0 := ⟨_, rfl⟩
 rw [← hhd]
 have hds : hd.size = 4 := by rw [hhd]; exact h4 0 hp
 have HHD := Aside0.mk hhd
 have HDS := Aside0.mk hds
 clear c0 ha h4 hhd hds
 go_enter Tryz.func12, Tryz.ntmps12
 go_wp2_with (first | (refine bx_ 1 #[.slice A0_0 l0_0.length c0_0] 26 ?_; intro gb hg w4 hbox hb; have HB1 := Aside0.mk hb; have hz : w4.cell? ⟨gb, 0, none⟩ = some (.slice A0_0 l0_0.length c0_0) := (blk_cell hbox 0).trans rfl; clear hb hbox hg) | (go_at_call 6; (with_reducible refine (impl_Solutions.calls k A0_0 c0_0 l0_0 sl ok _ (Kd.C_below HR0.out HB1.out) HC0.out HS.out).mono ?_); rintro e w6 ⟨v, rfl, ho, hb⟩; have HB2 := Aside0.mk (below_step HB1.out hb); have hp' := HP.out; obtain ⟨gL, cL, rfl, hbL, hlL, clL, HGL⟩ := Kd.R_form ho hp'; have HCL := Aside0.mk (Kd.R_reads' ho).2.2; obtain ⟨ad0, e0, hx0⟩ := Kd.at_string HCL.out 0 (Int.le_refl 0) (by omega); cases e0; rw [← HHD.out] at hx0; simp only [Int.toNat_zero, add_plain] at hx0; have hcv := Lib.run_convert_string_bytes (P := Tryz.prog) w6 9 22 5 hd (u := .string) Tryz.underlying9 Tryz.underlying22 Tryz.underlying5; have hgr := grown_le w6 hd.size 5 (by have := HDS.out; omega); have hm := MR_conv w6 5 hd (by have := HDS.out; omega) w6.heap.size (Nat.le_refl _) hgr.2 hgr.1; have HBV := Aside0.mk (bytes_below (Below.refl w6.heap.size w6) (Nat.le_refl _) 5 hd); generalize Lib.bytesWorld w6 5 hd = w7 at hm HBV hcv; generalize grownCap w6 hd.size 0 5 = cap at hm hcv; have HM := Aside0.mk hm; have HSZ := Aside0.mk HB2.out.size; clear ho hb hgr hm hp' hbL hlL HGL))
 have hbl : (bytesOf hd).length = hd.size := by have := (MR_reads' HM.out).1; omega
 have hgz0 : ∃ g, w6.heap.size = g := ⟨_, rfl⟩
 obtain ⟨g, hgz⟩ := hgz0
 have HGZ := Aside0.mk hgz
 rw [hgz] at HM HBV HSZ
 clear hz hcv
 rw [hgz]
 clear hgz
 have HA0 := Aside0.mk (show impl_SureDigits.all hd (sl.drop 0) (bytesOf hd) = impl_SureDigits.all hd sl (bytesOf hd) from rfl)
 have HOL := Aside0.mk (show (bytesOf hd).length = 4 by rw [hbl]; exact HDS.out)
 have HX0 := Aside0.mk hx0
 clear hx0 hbl
 go_loopg [24] (sl.length + 1) (fun kq v24 w' => ∃ (j : Nat) (o : List Int), v24 = .int .i64 (j : Int) ∧ Aside0 (j + kq = sl.length + 1) ∧ Aside0 (o.length = 4) ∧ Aside0 (impl_SureDigits.all hd (sl.drop j) o = impl_SureDigits.all hd sl (bytesOf hd)) ∧ Aside0 (MR 5 w' g (fun _ => True) (.slice (some ⟨g, 0, none⟩) hd.size cap) o) ∧ Aside0 (Below g w6 w'))
 case atStart => exact ⟨0, _, rfl, ⟨by omega⟩, HOL, HA0, HM, HBV⟩
 case round =>
  clear HOL HA0 HM HBV
  obtain ⟨j, o, rfl, HJ, HOL, HA, HM, HBV⟩ := hrel
  by_cases c : j < sl.length
  · have d1 : decide ((j : Int) < (sl.length : Int)) = true := decide_eq_true (by omega)
    have d2 : decide (j < sl.length) = true := decide_eq_true c
    have p1 : (0 ≤ (j : Int)) = True := eq_true (by omega)
    have q1 : ((j : Int) < (sl.length : Int)) = True := eq_true (by omega)
    have hb6 : Below w6.heap.size w6 wr := by rw [HGZ.out]; exact HBV.out
    obtain ⟨ad1, e1, hx1⟩ := Kd.at_string (Kd.C_below HCL.out hb6) (j : Int) (by omega) (by omega)
    cases e1
    simp only [add_plain, Int.toNat_natCast] at hx1
    obtain ⟨T, hT⟩ : ∃ T, T = rdOf ByteArray.empty sl (j : Int) := ⟨_, rfl⟩
    rw [← hT] at hx1
    have hTs : T.size = 4 := by rw [hT]; exact H4.out j c
    have hnx : impl_SureDigits.all hd (sl.drop (j + 1)) (impl_SureDigits.row hd T 4 0 o) = impl_SureDigits.all hd sl (bytesOf hd) := by
     have h := HA.out
     rw [List.drop_eq_getElem_cons c] at h
     rw [← h, hT]
     unfold rdOf
     rw [Int.toNat_natCast, List.getD_eq_getElem?_getD, List.getElem?_eq_getElem c]
     rfl
    obtain ⟨RR, hRR⟩ : ∃ RR, impl_SureDigits.row hd T 4 0 o = RR := ⟨_, rfl⟩
    rw [hRR] at hnx
    have HRW := Aside0.mk hRR
    have HN := Aside0.mk hnx
    have HTS := Aside0.mk hTs
    have hl0 := HCL.out.2.1
    obtain ⟨gq, hgq⟩ : ∃ q, q = gk := ⟨_, rfl⟩
    subst hgq
    have HCC := Aside0.mk c
    clear HA hT hnx hb6 hTs c hRR
    go_wp2
    go_loopg [30] 5 (fun kq v30 w' => ∃ (i : Nat) (x : Int) (o2 : List Int), v30 = .int .i64 x ∧ Aside0 (x = (i : Int)) ∧ Aside0 (i + kq = 5) ∧ Aside0 (o2.length = 4) ∧ Aside0 (impl_SureDigits.row hd T (4 - i) i o2 = RR) ∧ Aside0 (MR 5 w' g (fun _ => True) (.slice (some ⟨g, 0, none⟩) hd.size cap) o2) ∧ Aside0 (Below g w6 w'))
    case atStart => exact ⟨0, 0, o, rfl, ⟨rfl⟩, ⟨by omega⟩, HOL, HRW, HM, HBV⟩
    case round =>
     clear HOL HM HBV hx1
     obtain ⟨i, x, o2, rfl, HX, HI, HOL, HR, HM, HBV⟩ := hrel
     by_cases d : i < 4
     · have hxb : 0 ≤ x ∧ x < (T.size : Int) ∧ x < (hd.size : Int) := by have := HX.out; have := HTS.out; have := HDS.out; omega
       have e1 : decide (x < (T.size : Int)) = true := decide_eq_true hxb.2.1
       have p1 : (0 ≤ x) = True := eq_true hxb.1
       have p2 : decide (0 ≤ x) = true := decide_eq_true hxb.1
       have q1 : (x < (T.size : Int)) = True := eq_true hxb.2.1
       have q2 : (x < (hd.size : Int)) = True := eq_true hxb.2.2
       have e3 : decide (x < (hd.size : Int)) = true := decide_eq_true hxb.2.2
       have hb6 : Below w6.heap.size w6 wr := by rw [HGZ.out]; exact HBV.out
       have hx0 := (hb6.cell (World.block_lt_of_cell? w6 _ HX0.out)).trans HX0.out
       have hcn := MR_celln 0 HM.out x hxb.1 hxb.2.2
       obtain ⟨hxc, hfc⟩ := hcn
       have hr := HR.out
       rw [show 4 - i = (4 - (i + 1)) + 1 by omega] at hr
       unfold impl_SureDigits.row impl_SureDigits.cell at hr
       have HID := Aside0.mk d
       rw [← HX.out] at hr
       clear hxb
       have hbT := bt_at T x
       have hbh := bt_at hd x
       by_cases hq : bt T x = bt hd x
       · have b0 : ((bt T x) == (bt hd x)) = true := beq_iff_eq.mpr hq
         have b1 : ((bt T x) != (bt hd x)) = false := bne_eq_false_iff_eq.mpr hq
         rw [if_pos hq] at hr
         have HR2 := Aside0.mk hr
         clear hr hq hb6 d
         go_wp2
         repeat (go_quiet (fail); try go_wp2)
         go_roundg (gk - 1)
         case measure => have := HI.out; have := HID.out; omega
         case rel => exact ⟨i + 1, x + 1, o2, zs15_1, ⟨by rw [HX.out]; rfl⟩, ⟨by have := HI.out; have := HID.out; omega⟩, HOL, HR2, ⟨MR_drewN HM.out _⟩, ⟨pw_below_drewN HBV.out _⟩⟩
       have b0 : ((bt T x) == (bt hd x)) = false := beq_eq_false_iff_ne.mpr hq
       have b1 : ((bt T x) != (bt hd x)) = true := bne_iff_ne.mpr hq
       rw [if_neg hq] at hr
       have HR2 := Aside0.mk hr
       clear hr hq hb6 d
       go_wp2
       repeat (go_quiet (fail); try go_wp2)
       go_roundg (gk - 1)
       case measure => have := HI.out; have := HID.out; omega
       case rel => exact ⟨i + 1, x + 1, o2.set i 63, zs15_1, ⟨by rw [HX.out]; rfl⟩, ⟨by have := HI.out; have := HID.out; omega⟩, ⟨by rw [List.length_set]; exact HOL.out⟩, HR2, ⟨by rw [show o2.set i 63 = o2.set x.toNat 63 by rw [HX.out, Int.toNat_natCast]]; exact (MR_putg (MR_drewN HM.out _) x 63).1⟩, ⟨(pw_below_drewN HBV.out _).setCell (Nat.le_refl _) _⟩⟩
     have e1 : decide (x < (T.size : Int)) = false := decide_eq_false (by have := HX.out; have := HTS.out; omega)
     have hr : o2 = RR := by
      have h := HR.out
      rw [show 4 - i = 0 by have := HI.out; omega] at h
      exact h
     have HR2 := Aside0.mk hr
     clear hr d
     go_wp2
     go_roundg (gq - 1)
     case measure => have := HJ.out; have := HCC.out; omega
     case rel => exact ⟨j + 1, o2, impl_SureDigits.succv_ j (by have := HCC.out; omega), ⟨by have := HJ.out; have := HCC.out; omega⟩, HOL, ⟨by rw [HR2.out]; exact HN.out⟩, HM, HBV⟩
  have d1 : decide ((j : Int) < (sl.length : Int)) = false := decide_eq_false (by omega)
  have d2 : decide (j < sl.length) = false := decide_eq_false c
  have hr : o = impl_SureDigits.all hd sl (bytesOf hd) := by
   have h := HA.out
   rw [List.drop_eq_nil_of_le (by omega)] at h
   exact h
  have hC : Kd.C (Kd.int .u8) wr (some ⟨g, 0, none⟩) hd.size o := by have h := MR_reads' HM.out; rw [← h.1] at h; exact h.2.2
  have hcv := Kd.C_string (P := Tryz.prog) (src := 22) (dst := 9) (e := 5) (c := cap) Tryz.underlying22 Tryz.underlying5 Tryz.underlying9 hC
  have HRR := Aside0.mk hr
  clear hr hC HA
  go_wp2
  go_ret2
  exact ⟨by rw [← HRR.out]; rfl, Below.trans HB2.out (by have h := HBV.out; have h2 := HSZ.out; rw [← HGZ.out] at h h2; exact h.mono h2)⟩

/-! ### spec_SureDigits: function 13 -/
mutual
def spec_SureDigits.l0 : Nat → List ByteArray → ByteArray → Int → Option (ByteArray × Bool)
 | 0, _, _, _ => none
 | k + 1, x4, x5, x6 => if x6 < 4 then (if 0 < (x4.length : Int) then (if 0 ≤ x6 then (if x6 ≤ (wrap64 (x6 + 1)) then (if (wrap64 (x6 + 1)) ≤ ((rdOf ByteArray.empty x4 0).size : Int) then (spec_SureDigits.l1 k x4 x5 x6 ((rdOf ByteArray.empty x4 0).extract (x6 : Int).toNat ((wrap64 (x6 + 1)) : Int).toNat) x4 (x4.length : Int) 0) else (none)) else (none)) else (none)) else (none)) else (some (x5, true))
def spec_SureDigits.l1 : Nat → List ByteArray → ByteArray → Int → ByteArray → List ByteArray → Int → Int → Option (ByteArray × Bool)
 | 0, _, _, _, _, _, _, _ => none
 | k + 1, x4, x5, x6, x7, x30, x31, x32 => if x32 < x31 then (if 0 ≤ x32 then (if x32 < (x30.length : Int) then (if 0 ≤ x6 then (if x6 ≤ (wrap64 (x6 + 1)) then (if (wrap64 (x6 + 1)) ≤ ((rdOf ByteArray.empty x30 x32).size : Int) then (if ((rdOf ByteArray.empty x30 x32).extract (x6 : Int).toNat ((wrap64 (x6 + 1)) : Int).toNat).toList = x7.toList then (spec_SureDigits.l1 k x4 x5 x6 x7 x30 x31 (wrap64 (x32 + 1))) else (if x5.size + 1 ≤ 9223372036854775807 then (spec_SureDigits.l0 k x4 (x5 ++ (⟨#[63]⟩ : ByteArray)) (wrap64 (x6 + 1))) else (none))) else (none)) else (none)) else (none)) else (none)) else (none)) else (if x5.size + x7.size ≤ 9223372036854775807 then (spec_SureDigits.l0 k x4 (x5 ++ x7) (wrap64 (x6 + 1))) else (none))
end
def spec_SureDigits.f (k : Nat) (l0_0 : List (S46)) : Option (ByteArray × Bool) := (spec_pzGood.f k l0_0).bind fun t303 => (if t303 = true then ((spec_pzAll.f k l0_0).bind fun t304 => (if (t304.length : Int) = 0 then (some ((⟨#[]⟩ : ByteArray), false)) else (spec_SureDigits.l0 k t304 (⟨#[]⟩ : ByteArray) 0))) else (some ((⟨#[]⟩ : ByteArray), false)))
theorem spec_SureDigits.mono_l : ∀ k, (∀ y0 y1 y2, LeO (spec_SureDigits.l0 k y0 y1 y2) (spec_SureDigits.l0 (k + 1) y0 y1 y2)) ∧ (∀ y0 y1 y2 y3 y4 y5 y6, LeO (spec_SureDigits.l1 k y0 y1 y2 y3 y4 y5 y6) (spec_SureDigits.l1 (k + 1) y0 y1 y2 y3 y4 y5 y6))
 | 0 => ⟨fun _ _ _ r h => by simp [spec_SureDigits.l0] at h, fun _ _ _ _ _ _ _ r h => by simp [spec_SureDigits.l1] at h⟩
 | k + 1 => by
  obtain ⟨ih0, ih1⟩ := spec_SureDigits.mono_l k
  refine ⟨?_, ?_⟩
  · intro y0 y1 y2
    unfold spec_SureDigits.l0
    have m1_ := @ih0
    have m2_ := @ih1
    have m3_ := @spec_pzAll.mono
    have m4_ := @spec_pzGood.mono
    exact zM_
  intro y0 y1 y2 y3 y4 y5 y6
  unfold spec_SureDigits.l1
  have m1_ := @ih0
  have m2_ := @ih1
  have m3_ := @spec_pzAll.mono
  have m4_ := @spec_pzGood.mono
  exact zM_
theorem spec_SureDigits.mono : ∀ a0 k, LeO (spec_SureDigits.f k a0) (spec_SureDigits.f (k + 1) a0) := by
 intro a0 k
 obtain ⟨ih0, ih1⟩ := spec_SureDigits.mono_l k
 unfold spec_SureDigits.f
 have m1_ := @ih0
 have m2_ := @ih1
 have m3_ := @spec_pzAll.mono
 have m4_ := @spec_pzGood.mono
 exact zM_
theorem spec_SureDigits.calls (k : Nat) (A0_0 : Option Addr) (c0_0 : Nat) (l0_0 : List (S46)) (r1 : ByteArray) (r2 : Bool) (w : World) (hr0_0 : Kd.C k46 w A0_0 l0_0.length l0_0) (hc0_0 : l0_0.length ≤ c0_0) (h : spec_SureDigits.f k l0_0 = some (r1, r2)) :
 Calls Tryz.prog 13 #[.agg #[.slice A0_0 l0_0.length c0_0]] w fun e w' => e = .returned (.tuple #[.string r1, .bool r2]) ∧ Below w.heap.size w w' := by
 have hu26 := Tryz.underlying26
 have HR0_0 := Aside0.mk hr0_0
 have HC0_0 := Aside0.mk hc0_0
 clear hr0_0 hc0_0
 have HB := Aside0.mk (Below.refl w.heap.size w)
 unfold spec_SureDigits.f at h
 have H := h
 clear h
 replace H := bd_ H; obtain ⟨t303, A2, H⟩ := H
 by_cases c3 : t303 = true
 rotate_left
 · replace H := bf_ c3 H; obtain ⟨rfl, H⟩ := H
   simp only [Option.some.injEq, Prod.mk.injEq] at H
   obtain ⟨rfl, rfl⟩ := H
   go_enter Tryz.func13, Tryz.ntmps13
   go_wp2_with (first | (refine bx_ 1 #[.slice A0_0 l0_0.length c0_0] 26 ?_; intro gb302 hg w32 hbox hb; have BK302 := Aside0.mk (hbox); have GW302 : Aside0 (w.heap.size ≤ gb302) := bs_ hg zB_; have GE302 := GW302; replace HB := Aside0.mk (below_step zB_ hb); clear hb hbox hg; have hcz33_0 : w32.cell? ⟨gb302, 0, none⟩ = some (.slice A0_0 l0_0.length c0_0) := (blk_cell BK302.out 0).trans rfl; have hfz33_0 := blk_frozen BK302.out 0) | ((with_reducible refine gc_ 39 rfl ?_); refine gL_ 11 Tryz.func39 #[.agg #[.slice A0_0 l0_0.length c0_0]] ?_; (with_reducible refine (spec_pzGood.calls k _ _ l0_0 false _ ?side1 ?side2 A2.out).mono ?_); (case side1 => exact zc15_1_); (case side2 => exact HC0_0.out); rintro e w34 ⟨rfl, hb⟩; refine ⟨_, rfl, ?_⟩; replace BK302 := bb_ BK302 z11_5_ hb; replace HB := Aside0.mk (below_step z11_3_ hb)))
   go_ret2
   exact ⟨zR_, zs15_2⟩
 subst c3
 rw [if_pos rfl] at H
 replace H := bd_ H; obtain ⟨t304, A4, H⟩ := H
 by_cases c5 : (t304.length : Int) = 0
 · obtain ⟨H, c5b0, c5b1⟩ := ep_ c5 H
   clear c5
   simp only [Option.some.injEq, Prod.mk.injEq] at H
   obtain ⟨rfl, rfl⟩ := H
   go_enter Tryz.func13, Tryz.ntmps13
   go_wp2_with (first | (refine bx_ 1 #[.slice A0_0 l0_0.length c0_0] 26 ?_; intro gb302 hg w6 hbox hb; have BK302 := Aside0.mk (hbox); have GW302 : Aside0 (w.heap.size ≤ gb302) := bs_ hg zB_; have GE302 := GW302; replace HB := Aside0.mk (below_step zB_ hb); clear hb hbox hg; have hcz7_0 : w6.cell? ⟨gb302, 0, none⟩ = some (.slice A0_0 l0_0.length c0_0) := (blk_cell BK302.out 0).trans rfl; have hfz7_0 := blk_frozen BK302.out 0) | ((with_reducible refine gc_ 39 rfl ?_); refine gL_ 11 Tryz.func39 #[.agg #[.slice A0_0 l0_0.length c0_0]] ?_; (with_reducible refine (spec_pzGood.calls k _ _ l0_0 true _ ?side1 ?side2 A2.out).mono ?_); (case side1 => exact zc15_1_); (case side2 => exact HC0_0.out); rintro e w8 ⟨rfl, hb⟩; refine ⟨_, rfl, ?_⟩; replace BK302 := bb_ BK302 z11_5_ hb; replace HB := Aside0.mk (below_step z11_3_ hb); have hcz9_0 : w8.cell? ⟨gb302, 0, none⟩ = some (.slice A0_0 l0_0.length c0_0) := (blk_cell BK302.out 0).trans rfl; have hfz9_0 := blk_frozen BK302.out 0) | ((with_reducible refine gc_ 40 rfl ?_); refine gL_ 15 Tryz.func40 #[.slice A0_0 l0_0.length c0_0] ?_; (with_reducible refine (spec_pzAll.calls k _ _ l0_0 t304 _ ?side1 ?side2 A4.out).mono ?_); (case side1 => exact zc15_1_); (case side2 => exact HC0_0.out); rintro e w10 ⟨v305, rfl, ho0, hb⟩; refine ⟨_, rfl, ?_⟩; have HO306 := Aside0.mk (Kd.R_lower ho0 (below_size z11_3_)); replace BK302 := bb_ BK302 z11_5_ hb; replace HB := Aside0.mk (below_step z11_3_ hb); obtain ⟨Ao11, co11, eo11⟩ := Kd.R_slice HO306.out; subst eo11))
   go_ret2
   exact ⟨zR_, zs15_2⟩
 obtain ⟨H, c5b0, c5b1⟩ := en_ c5 H
 have c5b2 : ¬ (t304 = []) := fun h_ => c5 (by rw [h_]; rfl)
 have H' := Aside0.mk H
 clear H
 go_enter Tryz.func13, Tryz.ntmps13
 go_wp2_with (first | (refine bx_ 1 #[.slice A0_0 l0_0.length c0_0] 26 ?_; intro gb302 hg w12 hbox hb; have BK302 := Aside0.mk (hbox); have GW302 : Aside0 (w.heap.size ≤ gb302) := bs_ hg zB_; have GE302 := GW302; replace HB := Aside0.mk (below_step zB_ hb); clear hb hbox hg; have hcz13_0 : w12.cell? ⟨gb302, 0, none⟩ = some (.slice A0_0 l0_0.length c0_0) := (blk_cell BK302.out 0).trans rfl; have hfz13_0 := blk_frozen BK302.out 0) | ((with_reducible refine gc_ 39 rfl ?_); refine gL_ 11 Tryz.func39 #[.agg #[.slice A0_0 l0_0.length c0_0]] ?_; (with_reducible refine (spec_pzGood.calls k _ _ l0_0 true _ ?side1 ?side2 A2.out).mono ?_); (case side1 => exact zc15_1_); (case side2 => exact HC0_0.out); rintro e w14 ⟨rfl, hb⟩; refine ⟨_, rfl, ?_⟩; replace BK302 := bb_ BK302 z11_5_ hb; replace HB := Aside0.mk (below_step z11_3_ hb); have hcz15_0 : w14.cell? ⟨gb302, 0, none⟩ = some (.slice A0_0 l0_0.length c0_0) := (blk_cell BK302.out 0).trans rfl; have hfz15_0 := blk_frozen BK302.out 0) | ((with_reducible refine gc_ 40 rfl ?_); refine gL_ 15 Tryz.func40 #[.slice A0_0 l0_0.length c0_0] ?_; (with_reducible refine (spec_pzAll.calls k _ _ l0_0 t304 _ ?side1 ?side2 A4.out).mono ?_); (case side1 => exact zc15_1_); (case side2 => exact HC0_0.out); rintro e w16 ⟨v305, rfl, ho0, hb⟩; refine ⟨_, rfl, ?_⟩; have HO306 := Aside0.mk (Kd.R_lower ho0 (below_size z11_3_)); replace BK302 := bb_ BK302 z11_5_ hb; replace HB := Aside0.mk (below_step z11_3_ hb); obtain ⟨Ao17, co17, eo17⟩ := Kd.R_slice HO306.out; subst eo17))
 go_loopg [5, 6] k (fun kq v5 v6 w' => ∃ (x5_1 : ByteArray) (x6_1 : Int), v5 = .string x5_1 ∧ v6 = .int .i64 x6_1 ∧ Aside0 (spec_SureDigits.l0 kq t304 x5_1 x6_1 = some (r1, r2)) ∧ Aside0 (kq ≤ k) ∧ Aside0 (Kd.R Kd.string 9 w' w.heap.size (fun _ => True) (.slice Ao17 t304.length co17) t304) ∧ Aside0 (w'.heap[gb302]? = some (.cells #[(.slice A0_0 l0_0.length c0_0)] 26 (0, 0))) ∧ Aside0 (Below w.heap.size w w'))
 case atStart => exact ⟨((⟨#[]⟩ : ByteArray)), (0), zV_, zV_, H', ⟨Nat.le_refl _⟩, ⟨rr_ HO306.out⟩, ⟨b_ BK302.out⟩, ⟨zs15_2⟩⟩
 case round =>
  clear H'
  obtain ⟨x5_1, x6_1, rfl, rfl, HA, HK1, HO_4, BK302, HB⟩ := hrel
  cases gk with
  | zero => exact absurd HA.out (by simp [spec_SureDigits.l0])
  | succ k1 =>
   have H := HA.out
   clear HA
   simp only [spec_SureDigits.l0] at H
   by_cases c18 : x6_1 < 4
   rotate_left
   · rw [if_neg c18] at H
     have c18b0 := decide_eq_false c18
     clear c18
     simp only [Option.some.injEq, Prod.mk.injEq] at H
     obtain ⟨rfl, rfl⟩ := H
     go_wp2
     go_ret2
     exact ⟨zR_, zs15_2⟩
   rw [if_pos c18] at H
   have c18b0 := decide_eq_true c18
   clear c18
   replace H := gd_ H; obtain ⟨c19, H⟩ := H
   have c19b0 : decide (0 < (t304.length : Int)) = true := decide_eq_true c19
   have c19b1 : decide (0 < t304.length) = true := decide_eq_true (by omega)
   clear c19
   replace H := gd_ H; obtain ⟨c20, H⟩ := H
   have c20b0 := eq_true c20
   have c20b1 : decide (0 ≤ x6_1) = true := decide_eq_true c20
   clear c20
   replace H := gd_ H; obtain ⟨c21, H⟩ := H
   have c21b0 := eq_true c21
   have c21b1 : decide (x6_1 ≤ (wrap64 (x6_1 + 1))) = true := decide_eq_true c21
   replace H := gd_ H; obtain ⟨c22, H⟩ := H
   have c22b0 := eq_true c22
   have c22b1 : decide ((wrap64 (x6_1 + 1)) ≤ ((rdOf ByteArray.empty t304 0).size : Int)) = true := decide_eq_true c22
   have H' := Aside0.mk H
   clear H
   have p307 : 0 ≤ (0 : Int) := (by omega)
   have q307 : 0 < (t304.length : Int) := of_decide_eq_true zS_
   obtain ⟨ad307, e307, hx307_0⟩ := Kd.at_string (Kd.R_reads' HO_4.out).2.2 0 p307 q307
   cases e307
   have qi307 : (0 < t304.length) = True := eq_true (by omega)
   (try rw [show ((0 : Int)).toNat = 0 from rfl] at hx307_0)
   (try rw [Addr.add_zero'] at hx307_0)
   replace p307 := eq_true p307
   replace q307 := eq_true q307
   go_wp2
   go_loopg [7, 32] k1 (fun kq v7 v32 w' => ∃ (x7_2 : ByteArray) (x32_2 : Int), v7 = .string x7_2 ∧ v32 = .int .i64 x32_2 ∧ Aside0 (spec_SureDigits.l1 kq t304 x5_1 x6_1 x7_2 t304 (t304.length : Int) x32_2 = some (r1, r2)) ∧ Aside0 (kq ≤ k1) ∧ Aside0 (Kd.R Kd.string 9 w' w.heap.size (fun _ => True) (.slice (some ad307) t304.length co17) t304) ∧ Aside0 (Kd.R Kd.string 9 w' w.heap.size (fun _ => True) (.slice (some ad307) t304.length co17) t304) ∧ Aside0 (w'.heap[gb302]? = some (.cells #[(.slice A0_0 l0_0.length c0_0)] 26 (0, 0))) ∧ Aside0 (Below w.heap.size w w'))
   case atStart => exact ⟨((rdOf ByteArray.empty t304 0).extract (x6_1 : Int).toNat ((wrap64 (x6_1 + 1)) : Int).toNat), (0), zV_, zV_, H', ⟨Nat.le_refl _⟩, ⟨rr_ HO_4.out⟩, ⟨rr_ HO_4.out⟩, ⟨b_ BK302.out⟩, ⟨zs15_2⟩⟩
   case round =>
    clear H'
    obtain ⟨x7_2, x32_2, rfl, rfl, HA, HK2, HO_4, HO_30, BK302, HB⟩ := hrel
    cases gk with
    | zero => exact absurd HA.out (by simp [spec_SureDigits.l1])
    | succ k2 =>
     have H := HA.out
     clear HA
     simp only [spec_SureDigits.l1] at H
     by_cases c23 : x32_2 < (t304.length : Int)
     · rw [if_pos c23] at H
       have c23b0 := decide_eq_true c23
       clear c23
       replace H := gd_ H; obtain ⟨c24, H⟩ := H
       have c24b0 : decide (0 ≤ x32_2) = true := decide_eq_true c24
       clear c24
       replace H := gd_ H; obtain ⟨c25, H⟩ := H
       have c25b0 : decide (x32_2 < (t304.length : Int)) = true := decide_eq_true c25
       clear c25
       replace H := gd_ H; obtain ⟨c26, H⟩ := H
       have c26b0 := eq_true c26
       have c26b1 : decide (0 ≤ x6_1) = true := decide_eq_true c26
       clear c26
       replace H := gd_ H; obtain ⟨c27, H⟩ := H
       have c27b0 := eq_true c27
       have c27b1 : decide (x6_1 ≤ (wrap64 (x6_1 + 1))) = true := decide_eq_true c27
       replace H := gd_ H; obtain ⟨c28, H⟩ := H
       have c28b0 := eq_true c28
       have c28b1 : decide ((wrap64 (x6_1 + 1)) ≤ ((rdOf ByteArray.empty t304 x32_2).size : Int)) = true := decide_eq_true c28
       by_cases c29 : ((rdOf ByteArray.empty t304 x32_2).extract (x6_1 : Int).toNat ((wrap64 (x6_1 + 1)) : Int).toNat).toList = x7_2.toList
       · rw [if_pos c29] at H
         have c29b0 : (((rdOf ByteArray.empty t304 x32_2).extract (x6_1 : Int).toNat ((wrap64 (x6_1 + 1)) : Int).toNat).toList == x7_2.toList) = true := beq_iff_eq.mpr c29
         have c29b1 : (((rdOf ByteArray.empty t304 x32_2).extract (x6_1 : Int).toNat ((wrap64 (x6_1 + 1)) : Int).toNat).toList != x7_2.toList) = false := bne_eq_false_iff_eq.mpr c29
         clear c29
         have H' := Aside0.mk H
         clear H
         have p308 : 0 ≤ (x32_2 : Int) := of_decide_eq_true zS_
         have q308 : x32_2 < (t304.length : Int) := of_decide_eq_true zS_
         obtain ⟨ad308, e308, hx308_0⟩ := Kd.at_string (Kd.R_reads' HO_30.out).2.2 x32_2 p308 q308
         obtain rfl : ad307 = ad308 := (by injection e308)
         replace p308 := eq_true p308
         replace q308 := eq_true q308
         go_wp2
         go_roundg k2
         case measure => have := HK1.out; have := HK2.out; omega
         case rel => exact ⟨(x7_2), (wrap64 (x32_2 + 1)), zV_, zV_, H', ⟨zs15_3⟩, ⟨rr_ HO_4.out⟩, ⟨rr_ HO_30.out⟩, ⟨b_ BK302.out⟩, ⟨zs15_2⟩⟩
       rw [if_neg c29] at H
       have c29b0 : (((rdOf ByteArray.empty t304 x32_2).extract (x6_1 : Int).toNat ((wrap64 (x6_1 + 1)) : Int).toNat).toList == x7_2.toList) = false := beq_eq_false_iff_ne.mpr c29
       have c29b1 : (((rdOf ByteArray.empty t304 x32_2).extract (x6_1 : Int).toNat ((wrap64 (x6_1 + 1)) : Int).toNat).toList != x7_2.toList) = true := bne_iff_ne.mpr c29
       replace H := gd_ H; obtain ⟨c30, H⟩ := H
       have c30b0 := eq_true c30
       have c30b1 : decide (x5_1.size + 1 ≤ 9223372036854775807) = true := decide_eq_true c30
       try have c30b2 : (9223372036854775807 < x5_1.size + 1) = False := eq_false (Nat.not_lt.2 c30)
       have H' := Aside0.mk H
       clear H
       have p308 : 0 ≤ (x32_2 : Int) := of_decide_eq_true zS_
       have q308 : x32_2 < (t304.length : Int) := of_decide_eq_true zS_
       obtain ⟨ad308, e308, hx308_0⟩ := Kd.at_string (Kd.R_reads' HO_30.out).2.2 x32_2 p308 q308
       obtain rfl : ad307 = ad308 := (by injection e308)
       replace p308 := eq_true p308
       replace q308 := eq_true q308
       go_wp2
       go_roundg k2
       case measure => have := HK1.out; have := HK2.out; omega
       case rel => exact ⟨(x5_1 ++ (⟨#[63]⟩ : ByteArray)), (wrap64 (x6_1 + 1)), zV_, zV_, H', ⟨zs15_3⟩, ⟨rr_ HO_4.out⟩, ⟨b_ BK302.out⟩, ⟨zs15_2⟩⟩
     rw [if_neg c23] at H
     have c23b0 := decide_eq_false c23
     clear c23
     replace H := gd_ H; obtain ⟨c31, H⟩ := H
     have c31b0 := eq_true c31
     have c31b1 : decide (x5_1.size + x7_2.size ≤ 9223372036854775807) = true := decide_eq_true c31
     try have c31b2 : (9223372036854775807 < x5_1.size + x7_2.size) = False := eq_false (Nat.not_lt.2 c31)
     have H' := Aside0.mk H
     clear H
     go_wp2
     go_roundg k2
     case measure => have := HK1.out; have := HK2.out; omega
     case rel => exact ⟨(x5_1 ++ x7_2), (wrap64 (x6_1 + 1)), zV_, zV_, H', ⟨zs15_3⟩, ⟨rr_ HO_4.out⟩, ⟨b_ BK302.out⟩, ⟨zs15_2⟩⟩

/-! ### impl_IsSolved: function 14 -/
def impl_IsSolved.f (k : Nat) (l0_0 : List (S46)) : Option (Bool × Bool) := (impl_CountSolutions.f k l0_0).bind fun bt310 => (some ((bt310.1 == 1), bt310.2))
theorem impl_IsSolved.mono : ∀ a0 k, LeO (impl_IsSolved.f k a0) (impl_IsSolved.f (k + 1) a0) := by
 intro a0 k
 unfold impl_IsSolved.f
 have m1_ := @impl_CountSolutions.mono
 exact zM_
theorem impl_IsSolved.calls (k : Nat) (A0_0 : Option Addr) (c0_0 : Nat) (l0_0 : List (S46)) (r1 : Bool) (r2 : Bool) (w : World) (hr0_0 : Kd.C k46 w A0_0 l0_0.length l0_0) (hc0_0 : l0_0.length ≤ c0_0) (h : impl_IsSolved.f k l0_0 = some (r1, r2)) :
 Calls Tryz.prog 14 #[.agg #[.slice A0_0 l0_0.length c0_0]] w fun e w' => e = .returned (.tuple #[.bool r1, .bool r2]) ∧ Below w.heap.size w w' := by
 have hu26 := Tryz.underlying26
 have HR0_0 := Aside0.mk hr0_0
 have HC0_0 := Aside0.mk hc0_0
 clear hr0_0 hc0_0
 have HB := Aside0.mk (Below.refl w.heap.size w)
 unfold impl_IsSolved.f at h
 have H := h
 clear h
 replace H := bd_ H; obtain ⟨⟨t310, t311⟩, A2, H⟩ := H
 dsimp only at H
 simp only [Option.some.injEq, Prod.mk.injEq] at H
 obtain ⟨rfl, rfl⟩ := H
 go_enter Tryz.func14, Tryz.ntmps14
 go_wp2_with (first | (refine bx_ 1 #[.slice A0_0 l0_0.length c0_0] 26 ?_; intro gb309 hg w3 hbox hb; have BK309 := Aside0.mk (hbox); have GW309 : Aside0 (w.heap.size ≤ gb309) := bs_ hg zB_; have GE309 := GW309; replace HB := Aside0.mk (below_step zB_ hb); clear hb hbox hg; have hcz4_0 : w3.cell? ⟨gb309, 0, none⟩ = some (.slice A0_0 l0_0.length c0_0) := (blk_cell BK309.out 0).trans rfl; have hfz4_0 := blk_frozen BK309.out 0) | ((with_reducible refine gc_ 8 rfl ?_); refine gL_ 8 Tryz.func8 #[.agg #[.slice A0_0 l0_0.length c0_0]] ?_; (with_reducible refine (impl_CountSolutions.calls k _ _ l0_0 t310 t311 _ ?side1 ?side2 A2.out).mono ?_); (case side1 => exact zc15_1_); (case side2 => exact HC0_0.out); rintro e w5 ⟨rfl, hb⟩; refine ⟨_, rfl, ?_⟩; replace BK309 := bb_ BK309 (b_ BK309.out) hb; replace HB := Aside0.mk (below_step (by repeat (first | (with_reducible first | exact HB.out | apply below_alloc | apply pw_below_drewN | apply below_drew1 | refine below_set ?_ GE309.out) | exact HB.out)) hb)))
 go_ret2
 exact ⟨zR_, by repeat (first | (with_reducible first | exact HB.out | apply below_alloc | apply pw_below_drewN | apply below_drew1 | refine below_set ?_ GE309.out) | exact HB.out)⟩

/-! ### spec_pzSolved: function 41 -/
def spec_pzSolved.f (k : Nat) (l0 : List (S46)) : Option (Bool) := (spec_pzAll.f k l0).bind fun t312 => (some ((t312.length : Int) == 1))
theorem spec_pzSolved.mono : ∀ a0 k, LeO (spec_pzSolved.f k a0) (spec_pzSolved.f (k + 1) a0) := by
 intro a0 k
 unfold spec_pzSolved.f
 have m1_ := @spec_pzAll.mono
 exact zM_
theorem spec_pzSolved.calls (k : Nat) (A0 : Option Addr) (c0 : Nat) (l0 : List (S46)) (r : Bool) (w : World) (hr0 : Kd.C k46 w A0 l0.length l0) (hc0 : l0.length ≤ c0) (h : spec_pzSolved.f k l0 = some r) :
 Calls Tryz.prog 41 #[.slice A0 l0.length c0] w fun e w' => e = .returned (.bool r) ∧ Below w.heap.size w w' := by
 have HR0 := Aside0.mk hr0
 have HC0 := Aside0.mk hc0
 clear hr0 hc0
 have HB := Aside0.mk (Below.refl w.heap.size w)
 unfold spec_pzSolved.f at h
 have H := h
 clear h
 replace H := bd_ H; obtain ⟨t312, A2, H⟩ := H
 obtain rfl := Option.some.inj H
 go_enter Tryz.func41, Tryz.ntmps41
 go_wp2_with (first | ((with_reducible refine gc_ 40 rfl ?_); refine gL_ 4 Tryz.func40 #[.slice A0 l0.length c0] ?_; (with_reducible refine (spec_pzAll.calls k _ _ l0 t312 _ ?side1 ?side2 A2.out).mono ?_); (case side1 => repeat (first | exact HR0.out | (with_reducible refine Kd.C_alloc ?_ _) | (with_reducible refine Kd.C_drewN ?_ _) | (with_reducible refine Kd.C_drew ?_))); (case side2 => exact HC0.out); rintro e w3 ⟨v313, rfl, ho0, hb⟩; refine ⟨_, rfl, ?_⟩; have HO314 := Aside0.mk (Kd.R_lower ho0 (below_size zB_)); replace HB := Aside0.mk (below_step zB_ hb); obtain ⟨Ao4, co4, eo4⟩ := Kd.R_slice HO314.out; subst eo4))
 go_ret
 exact ⟨zR_, zB_⟩

/-! ### spec_IsSolved: function 15 -/
def spec_IsSolved.f (k : Nat) (l0_0 : List (S46)) : Option (Bool × Bool) := (spec_pzGood.f k l0_0).bind fun t316 => (if t316 = true then ((spec_pzSolved.f k l0_0).bind fun t317 => (some (t317, true))) else (some (false, false)))
theorem spec_IsSolved.mono : ∀ a0 k, LeO (spec_IsSolved.f k a0) (spec_IsSolved.f (k + 1) a0) := by
 intro a0 k
 unfold spec_IsSolved.f
 have m1_ := @spec_pzGood.mono
 have m2_ := @spec_pzSolved.mono
 exact zM_
theorem spec_IsSolved.calls (k : Nat) (A0_0 : Option Addr) (c0_0 : Nat) (l0_0 : List (S46)) (r1 : Bool) (r2 : Bool) (w : World) (hr0_0 : Kd.C k46 w A0_0 l0_0.length l0_0) (hc0_0 : l0_0.length ≤ c0_0) (h : spec_IsSolved.f k l0_0 = some (r1, r2)) :
 Calls Tryz.prog 15 #[.agg #[.slice A0_0 l0_0.length c0_0]] w fun e w' => e = .returned (.tuple #[.bool r1, .bool r2]) ∧ Below w.heap.size w w' := by
 have hu26 := Tryz.underlying26
 have HR0_0 := Aside0.mk hr0_0
 have HC0_0 := Aside0.mk hc0_0
 clear hr0_0 hc0_0
 have HB := Aside0.mk (Below.refl w.heap.size w)
 unfold spec_IsSolved.f at h
 have H := h
 clear h
 replace H := bd_ H; obtain ⟨t316, A2, H⟩ := H
 by_cases c3 : t316 = true
 · subst c3
   rw [if_pos rfl] at H
   replace H := bd_ H; obtain ⟨t317, A4, H⟩ := H
   simp only [Option.some.injEq, Prod.mk.injEq] at H
   obtain ⟨rfl, rfl⟩ := H
   go_enter Tryz.func15, Tryz.ntmps15
   go_wp2_with (first | (refine bx_ 1 #[.slice A0_0 l0_0.length c0_0] 26 ?_; intro gb315 hg w5 hbox hb; have BK315 := Aside0.mk (hbox); have GW315 : Aside0 (w.heap.size ≤ gb315) := bs_ hg zB_; have GE315 := GW315; replace HB := Aside0.mk (below_step zB_ hb); clear hb hbox hg; have hcz6_0 : w5.cell? ⟨gb315, 0, none⟩ = some (.slice A0_0 l0_0.length c0_0) := (blk_cell BK315.out 0).trans rfl; have hfz6_0 := blk_frozen BK315.out 0) | ((with_reducible refine gc_ 39 rfl ?_); refine gL_ 5 Tryz.func39 #[.agg #[.slice A0_0 l0_0.length c0_0]] ?_; (with_reducible refine (spec_pzGood.calls k _ _ l0_0 true _ ?side1 ?side2 A2.out).mono ?_); (case side1 => exact zc15_1_); (case side2 => exact HC0_0.out); rintro e w7 ⟨rfl, hb⟩; refine ⟨_, rfl, ?_⟩; replace BK315 := bb_ BK315 z11_8_ hb; replace HB := Aside0.mk (below_step z11_6_ hb); have hcz8_0 : w7.cell? ⟨gb315, 0, none⟩ = some (.slice A0_0 l0_0.length c0_0) := (blk_cell BK315.out 0).trans rfl; have hfz8_0 := blk_frozen BK315.out 0) | ((with_reducible refine gc_ 41 rfl ?_); refine gL_ 9 Tryz.func41 #[.slice A0_0 l0_0.length c0_0] ?_; (with_reducible refine (spec_pzSolved.calls k _ _ l0_0 t317 _ ?side1 ?side2 A4.out).mono ?_); (case side1 => exact zc15_1_); (case side2 => exact HC0_0.out); rintro e w9 ⟨rfl, hb⟩; refine ⟨_, rfl, ?_⟩; replace BK315 := bb_ BK315 z11_8_ hb; replace HB := Aside0.mk (below_step z11_6_ hb)))
   go_ret2
   exact ⟨zR_, zs15_4⟩
 replace H := bf_ c3 H; obtain ⟨rfl, H⟩ := H
 simp only [Option.some.injEq, Prod.mk.injEq] at H
 obtain ⟨rfl, rfl⟩ := H
 go_enter Tryz.func15, Tryz.ntmps15
 go_wp2_with (first | (refine bx_ 1 #[.slice A0_0 l0_0.length c0_0] 26 ?_; intro gb315 hg w10 hbox hb; have BK315 := Aside0.mk (hbox); have GW315 : Aside0 (w.heap.size ≤ gb315) := bs_ hg zB_; have GE315 := GW315; replace HB := Aside0.mk (below_step zB_ hb); clear hb hbox hg; have hcz11_0 : w10.cell? ⟨gb315, 0, none⟩ = some (.slice A0_0 l0_0.length c0_0) := (blk_cell BK315.out 0).trans rfl; have hfz11_0 := blk_frozen BK315.out 0) | ((with_reducible refine gc_ 39 rfl ?_); refine gL_ 5 Tryz.func39 #[.agg #[.slice A0_0 l0_0.length c0_0]] ?_; (with_reducible refine (spec_pzGood.calls k _ _ l0_0 false _ ?side1 ?side2 A2.out).mono ?_); (case side1 => exact zc15_1_); (case side2 => exact HC0_0.out); rintro e w12 ⟨rfl, hb⟩; refine ⟨_, rfl, ?_⟩; replace BK315 := bb_ BK315 z11_8_ hb; replace HB := Aside0.mk (below_step z11_6_ hb)))
 go_ret2
 exact ⟨zR_, zs15_4⟩

-- NOT PRINTED: function 64 (impl_Clue_64)

/-! ### slices_Clone_clue: function 65 -/
def slices_Clone_clue.f (l0 : List S46) : Option (List S46) := if l0.length < 5864062014805 then some l0 else none
theorem slices_Clone_clue.calls (A0 : Option Addr) (c0 : Nat) (l0 : List (S46)) (r : List (S46)) (w : World) (hr0 : Kd.C k46 w A0 l0.length l0) (hc0 : l0.length ≤ c0) (h : slices_Clone_clue.f l0 = some r) :
 Calls Tryz.prog 65 #[.slice A0 l0.length c0] w fun e w' => ∃ v0_ : Value, e = .returned (v0_) ∧ Kd.R k46 46 w' w.heap.size (fun _ => True) v0_ r ∧ Below w.heap.size w w' := by
 have HR0 := Aside0.mk hr0
 have HC0 := Aside0.mk hc0
 have HB := Aside0.mk (Below.refl w.heap.size w)
 have heq := fun W => Lib.run_eql_slice_nil (P := Tryz.prog) W 24 46 A0 l0.length c0 0 0 Tryz.underlying24
 unfold slices_Clone_clue.f at h
 by_cases hlim : l0.length < 5864062014805
 rotate_left
 · exact none_ (if_neg hlim) h
 rw [if_pos hlim] at h
 obtain rfl := Option.some.inj h
 have LM := Aside0.mk hlim
 clear h hlim
 cases A0 with
 | none =>
  have hl : l0 = [] := by
   have h3 := hr0.2.2
   have : ¬ 0 < l0.length := fun hp => by obtain ⟨ad, e, _⟩ := h3 hp; cases e
   exact List.eq_nil_of_length_eq_zero (by omega)
  have HL := Aside0.mk hl
  clear hl hr0 hc0
  simp only [Option.isNone_none] at heq
  go_enter Tryz.func65, Tryz.ntmps65
  go_wp2
  go_ret
  exact ⟨_, rfl, by rw [HL.out]; exact Kd.R_nil _ _ _ _ _, HB.out⟩
 | some a0 =>
  clear hr0 hc0
  simp only [Option.isNone_some] at heq
  obtain ⟨y101, hy101⟩ : ∃ y_ : List (S46), y_ = (([] : List (S46))) := ⟨_, rfl⟩
  have Ny101 := Aside0.mk hy101
  have LMc2 := Aside0.mk (show y101.length + l0.length < 5864062014805 by rw [hy101]; simpa using LM.out)
  obtain ⟨y104, hy104⟩ : ∃ y_ : List (S46), y_ = (y101 ++ l0) := ⟨_, rfl⟩
  have Ny104 := Aside0.mk hy104
  have NL := Aside0.mk (show y104 = l0 by rw [hy104, hy101]; rfl)
  clear hy101 hy104
  go_enter Tryz.func65, Tryz.ntmps65
  go_wp2_with (first | ((with_reducible refine gate_dst (N := 5) rfl ?_); refine Kd.R_lit k46 _ 46 ?hg (N := 5) ?hd (xs := ([] : List (S46))) (inner := []) (ok := fun _ => True) (okp := fun _ => True) ?hr ?hp (fun _ hk => hk) trivial (Below.refl _ _) (Nat.le_refl _) (by simp) ?_; (case hd => rfl); (case hg => rfl); (case hr => exact zc15_6_); (case hp => exact (Reps.none _ _)); intro v102 w3 ho4 hb hg_ hnew_; clear hg_ hnew_; (first | rw [← Ny101.out] at ho4 | (simp only [Int.reduceToNat] at ho4; rw [← Ny101.out] at ho4)); have HO103 := Aside0.mk (Kd.R_lower ho4 (below_size zB_)); replace HB := Aside0.mk (below_step zB_ hb); clear hb ho4) | ((with_reducible refine gate_builtin (b := .append) (xs := #[.tmp 5, .tmp 6]) rfl ?_); at_builtin; refine Kd.R_append_rows k46 (w0 := w) w.heap.size rfl (.tmp 5) (.tmp 6) 24 46 (.agg #[(.int .i64 0), (.int .i64 0), (.int .i64 0)]) 24 rfl Tryz.underlying24 info46 rfl (by decide) (by omega) v102 y101 l0 _ _ _ (fun _ => True) (fun _ => False) rfl rfl ?aO ?aR (fun _ _ h => h) (fun _ h => h.elim) ?aF ?aB ?aS ?aL ?_; (case aR => repeat (first | exact (Kd.C_below HR0.out HB.out) | (with_reducible refine Kd.C_alloc ?_ _) | (with_reducible refine Kd.C_drewN ?_ _) | (with_reducible refine Kd.C_drew ?_))); (case aB => exact zB_); (case aF => exact (fun _ _ => trivial)); (case aO => exact (rr_ HO103.out)); (case aS => exact (below_size zB_)); (case aL => have := LMc2.out; omega); intro v105 w5 ho hb hg hat; rw [← Ny104.out] at ho; replace HB := Aside0.mk (hb); have HO106 := Aside0.mk (ho); clear HO103; clear ho hb hg hat))
  go_ret
  exact ⟨_, rfl, by refine rr_ ?_; rw [← NL.out]; exact HO106.out, zB_⟩

/-! ### impl_dropped: function 42 -/
theorem slices_Delete_clue (l : List S46) (k : Nat) (hk : k < l.length) (v : Value) (w0 w : World) (hB : Below w0.heap.size w0 w) (ho : Kd.R k46 46 w w0.heap.size (fun _ => True) v l) :
 Calls Tryz.prog 64 #[v, .int .i64 (k : Int), .int .i64 ((k : Int) + 1)] w fun e w' => ∃ v' : Value, e = .returned v' ∧ Kd.R k46 46 w' w0.heap.size (fun _ => True) v' (l.eraseIdx k) ∧ Below w0.heap.size w0 w' := by
 obtain ⟨g, c, rfl, hbase, hgw, _⟩ := Kd.R_form ho (by omega)
 obtain ⟨_, hnc, _⟩ := Kd.R_reads' ho
 have hcm : c ≤ 9223372036854775807 := by
  obtain ⟨_, inner, hown, _⟩ := ho
  rcases hown.2 with ⟨hv, _⟩ | ⟨g', cap', cur, hv, _, _, _, hcm, _⟩
  · cases hv
  injection hv with _ _ hc
  subst hc
  exact hcm
 obtain ⟨n, hn⟩ : ∃ n, n = l.length := ⟨_, rfl⟩
 rw [← hn] at ho hk hnc ⊢
 have HO := Aside0.mk ho
 have HB := Aside0.mk hB
 have HN := Aside0.mk hn
 have HBS := Aside0.mk hbase
 obtain ⟨i0, hi0, _, hsz0, _⟩ := info_parts info46
 obtain ⟨v1, hs1⟩ := Fn.cut3 (P := Tryz.prog) 24 46 .i64 .i64 .i64 Tryz.underlying24 hi0 (some ⟨g, 0, none⟩) n c (k : Int) ((k : Int) + 1) (n : Int) (by omega) (by omega) (by omega) (by omega)
 have hs2 := cut_to (P := Tryz.prog) 24 46 .i64 Tryz.underlying24 hi0 (some ⟨g, 0, none⟩) n c (k : Int) (by omega) (by omega) hnc
 have hs3 := cut_from (P := Tryz.prog) 24 46 .i64 Tryz.underlying24 hi0 3 hsz0 (some ⟨g, 0, none⟩) n c ((k : Int) + 1) (by omega) (by omega)
 have hs4 := Fn.cut_cap (P := Tryz.prog) 24 46 .i64 .i64 Tryz.underlying24 hi0 3 hsz0 g (n - 1) c ((n - 1 : Nat) : Int) (n : Int) (by omega) (by omega) (by omega) (by omega)
 have ek : ((k : Int) + 1).toNat = k + 1 := by omega
 have en : ((n : Int)).toNat - ((n - 1 : Nat) : Int).toNat = 1 := by omega
 rw [ek] at hs3
 rw [en] at hs4
 simp only [Int.toNat_natCast] at hs2 hs4
 obtain ⟨A3, hA3⟩ : ∃ A3, A3 = (if c = k + 1 then (some (⟨g, 0, none⟩ : Addr)) else (some (⟨g, 0, none⟩ : Addr)).map (·.add ((k + 1) * 3))) := ⟨_, rfl⟩
 rw [← hA3] at hs3
 have HA3 := Aside0.mk hA3
 have HI := Aside0.mk (show (Tryz.prog.info? 46).map (·.size) = some (k46).sz by rw [hi0]; simp [hsz0]; rfl)
 have HK := Aside0.mk hk
 have HC := Aside0.mk (show n - 1 < c by omega)
 have hne : ((k : Int) == (k : Int) + 1) = false := by simp; omega
 have hbl : (n : Int) ≤ 9223372036854775807 := by omega
 clear ho hB hn hbase hgw hA3 ek en hi0 hsz0
 go_enter Tryz.func64, Tryz.ntmps64
 go_wp2
 go_still_tail 6, (by kernel_rfl)
 have HB2 := Aside0.mk (below_drew1 HB.out)
 have HO2 := Aside0.mk (Kd.R_drew HO.out)
 go_wp2_with (first | ((with_reducible refine gate_builtin (b := .append) (xs := #[.tmp 22, .tmp 25]) rfl ?_); at_builtin; refine Kd.R_delete k46 (w0 := w0) w0.heap.size rfl (.tmp 22) (.tmp 25) 24 46 rfl Tryz.underlying24 HI.out (g := g) (n := n) (c := c) (k := k) rfl rfl HA3.out rfl HO2.out HK.out HB2.out HB2.out.size ?_; intro w1 ho1 hb1 _; have HO3 := Aside0.mk ho1; have HB3 := Aside0.mk hb1; clear ho1 hb1) | ((with_reducible refine gate_builtin (b := .clear) (xs := #[.tmp 31]) rfl ?_); refine Fn.clear_step k46 (w0 := w0) w0.heap.size rfl (.tmp 31) 24 46 (.agg #[.int .i64 0, .int .i64 0, .int .i64 0]) [.int .i64 0, .int .i64 0, .int .i64 0] rfl Tryz.underlying24 (fun _ => by kernel_rfl) (by kernel_rfl) (by simp [Value.oneCell']) rfl (g := g) (m := n - 1) (c := c) rfl rfl HC.out HO3.out HB3.out HB3.out.size ?_; intro w1 ho1 hb1; have HO4 := Aside0.mk ho1; have HB4 := Aside0.mk hb1; clear ho1 hb1))
 go_ret
 exact ⟨_, rfl, HO4.out, HB4.out⟩
def impl_dropped.f (l0 : List S46) (a1 : Int) : Option (List S46) := if 0 ≤ a1 then (if a1 < (l0.length : Int) then (if l0.length < 5864062014805 then some (l0.eraseIdx a1.toNat) else none) else none) else none
theorem impl_dropped.calls (A0 : Option Addr) (c0 : Nat) (l0 : List (S46)) (a1 : Int) (r : List (S46)) (w : World) (hr0 : Kd.C k46 w A0 l0.length l0) (hc0 : l0.length ≤ c0) (h : impl_dropped.f l0 a1 = some r) :
 Calls Tryz.prog 42 #[.slice A0 l0.length c0, .int .i64 a1] w fun e w' => ∃ v0_ : Value, e = .returned (v0_) ∧ Kd.R k46 46 w' w.heap.size (fun _ => True) v0_ r ∧ Below w.heap.size w w' := by
 unfold impl_dropped.f at h
 by_cases h0 : 0 ≤ a1
 rotate_left
 · exact none_ (if_neg h0) h
 rw [if_pos h0] at h
 by_cases h1 : a1 < (l0.length : Int)
 rotate_left
 · exact none_ (if_neg h1) h
 rw [if_pos h1] at h
 by_cases h2 : l0.length < 5864062014805
 rotate_left
 · exact none_ (if_neg h2) h
 rw [if_pos h2] at h
 obtain rfl := Option.some.inj h
 obtain ⟨k, rfl⟩ : ∃ k : Nat, a1 = (k : Int) := ⟨a1.toNat, by omega⟩
 have HR0 := Aside0.mk hr0
 have HC0 := Aside0.mk hc0
 have HCL := Aside0.mk (show slices_Clone_clue.f l0 = some l0 by unfold slices_Clone_clue.f; rw [if_pos h2])
 have HK := Aside0.mk (show k < l0.length by omega)
 have hb0 : (k : Int) ≤ 5864062014805 := by omega
 clear hr0 hc0 h h0 h1 h2
 go_enter Tryz.func42, Tryz.ntmps42
 go_wp2_with (first | (go_at_call 65; (with_reducible refine (slices_Clone_clue.calls A0 c0 l0 l0 w HR0.out HC0.out HCL.out).mono ?_); rintro e w1 ⟨v1, rfl, ho, hb⟩; have HO := Aside0.mk ho; have HB := Aside0.mk hb; clear ho hb) | (go_at_call 64; (with_reducible refine (slices_Delete_clue l0 k HK.out v1 w _ HB.out HO.out).mono ?_); rintro e w2 ⟨v2, rfl, ho, hb⟩; have HO2 := Aside0.mk ho; have HB2 := Aside0.mk hb; clear ho hb))
 go_ret
 exact ⟨_, rfl, HO2.out, HB2.out⟩

theorem z12_1_ {p : Prop} (h : p := by repeat (first | (with_reducible first | exact HB.out | apply below_alloc | apply pw_below_drewN | apply below_drew1 | refine below_set ?_ GE318.out) | exact HB.out)) : p := h
theorem z12_2_ {p : Prop} (h : p := by (try simp only [List.map_toArray, List.map_cons, List.map_nil]); first | done | rfl | (simp only [List.length_drop, List.length_take]; rfl)) : p := h
theorem z12_3_ {p : Prop} (h : p := by repeat (first | (with_reducible first | exact HB.out | apply below_alloc | apply pw_below_drewN | apply below_drew1 | refine below_set ?_ GE352.out) | exact HB.out)) : p := h
theorem z12_4_ {p : Prop} (h : p := by exact rr_ HO_4.out) : p := h
theorem z12_5_ {p : Prop} (h : p := by repeat (first | (with_reducible first | exact HB.out | apply below_alloc | apply pw_below_drewN | apply below_drew1 | refine below_set ?_ GE366.out) | exact HB.out)) : p := h
theorem z12_6_ {p : Prop} (h : p := by exact b_ BK318.out) : p := h
theorem z12_7_ {p : Prop} (h : p := by exact b_ BK352.out) : p := h
theorem z12_8_ {p : Prop} (h : p := by exact b_ BK366.out) : p := h
theorem z12_10_ {p : Prop} (h : p := by exact rr_ HO328.out) : p := h
theorem z12_11_ {p : Prop} (h : p := by exact rr_ HO359.out) : p := h

/-! ### impl_NeedlessClues: function 16 -/
def impl_NeedlessClues.l0 : Nat → List Int → Int → Int → Int → List (S46) → Option (List Int × Bool)
 | 0, _, _, _, _, _ => none
 | k + 1, x4, x5, x17, x18, x319000 => if x18 < x17 then ((impl_dropped.f x319000 x18).bind fun t326 => ((impl_solutions.f k t326).bind fun t329 => (if (t329.length : Int) = x5 then (if x4.length < 17592186044416 then (impl_NeedlessClues.l0 k (x4 ++ [x18]) x5 x17 (wrap64 (x18 + 1)) x319000) else (none)) else (impl_NeedlessClues.l0 k x4 x5 x17 (wrap64 (x18 + 1)) x319000)))) else (some (x4, true))
def impl_NeedlessClues.f (k : Nat) (l0_0 : List (S46)) : Option (List Int × Bool) := (impl_IsPuzzle.f k l0_0).bind fun t319 => (if t319 = true then ((impl_solutions.f k l0_0).bind fun t323 => (impl_NeedlessClues.l0 k (([] : List Int)) (t323.length : Int) (l0_0.length : Int) 0 l0_0)) else (some (([] : List Int), false)))
theorem impl_NeedlessClues.mono_l : ∀ k, (∀ y0 y1 y2 y3 y4, LeO (impl_NeedlessClues.l0 k y0 y1 y2 y3 y4) (impl_NeedlessClues.l0 (k + 1) y0 y1 y2 y3 y4))
 | 0 => fun _ _ _ _ _ r h => by simp [impl_NeedlessClues.l0] at h
 | k + 1 => by
  have ih0 := impl_NeedlessClues.mono_l k
  intro y0 y1 y2 y3 y4
  unfold impl_NeedlessClues.l0
  have m1_ := @ih0
  have m2_ := @impl_IsPuzzle.mono
  have m3_ := @impl_solutions.mono
  exact zM_
theorem impl_NeedlessClues.mono : ∀ a0 k, LeO (impl_NeedlessClues.f k a0) (impl_NeedlessClues.f (k + 1) a0) := by
 intro a0 k
 have ih0 := impl_NeedlessClues.mono_l k
 unfold impl_NeedlessClues.f
 have m1_ := @ih0
 have m2_ := @impl_IsPuzzle.mono
 have m3_ := @impl_solutions.mono
 exact zM_
theorem impl_NeedlessClues.calls (k : Nat) (A0_0 : Option Addr) (c0_0 : Nat) (l0_0 : List (S46)) (r1 : List Int) (r2 : Bool) (w : World) (hr0_0 : Kd.C k46 w A0_0 l0_0.length l0_0) (hc0_0 : l0_0.length ≤ c0_0) (h : impl_NeedlessClues.f k l0_0 = some (r1, r2)) :
 Calls Tryz.prog 16 #[.agg #[.slice A0_0 l0_0.length c0_0]] w fun e w' => ∃ v0_ : Value, e = .returned (.tuple #[v0_, .bool r2]) ∧ Kd.R (Kd.int .i64) 3 w' w.heap.size (fun _ => True) v0_ r1 ∧ Below w.heap.size w w' := by
 have hu26 := Tryz.underlying26
 have HR0_0 := Aside0.mk hr0_0
 have HC0_0 := Aside0.mk hc0_0
 clear hr0_0 hc0_0
 have HB := Aside0.mk (Below.refl w.heap.size w)
 unfold impl_NeedlessClues.f at h
 have H := h
 clear h
 replace H := bd_ H; obtain ⟨t319, A2, H⟩ := H
 by_cases c3 : t319 = true
 rotate_left
 · replace H := bf_ c3 H; obtain ⟨rfl, H⟩ := H
   simp only [Option.some.injEq, Prod.mk.injEq] at H
   obtain ⟨rfl, rfl⟩ := H
   go_enter Tryz.func16, Tryz.ntmps16
   go_wp2_with (first | (refine bx_ 1 #[.slice A0_0 l0_0.length c0_0] 26 ?_; intro gb318 hg w30 hbox hb; have BK318 := Aside0.mk (hbox); have GW318 : Aside0 (w.heap.size ≤ gb318) := bs_ hg zB_; have GE318 := GW318; replace HB := Aside0.mk (below_step zB_ hb); clear hb hbox hg; have hcz31_0 : w30.cell? ⟨gb318, 0, none⟩ = some (.slice A0_0 l0_0.length c0_0) := (blk_cell BK318.out 0).trans rfl; have hfz31_0 := blk_frozen BK318.out 0) | ((with_reducible refine gc_ 26 rfl ?_); refine gL_ 8 Tryz.func26 #[.agg #[.slice A0_0 l0_0.length c0_0]] ?_; (with_reducible refine (impl_IsPuzzle.calls k _ _ l0_0 false _ ?side1 ?side2 A2.out).mono ?_); (case side1 => exact zc15_1_); (case side2 => exact HC0_0.out); rintro e w32 ⟨rfl, hb⟩; refine ⟨_, rfl, ?_⟩; replace BK318 := bb_ BK318 z12_6_ hb; replace HB := Aside0.mk (below_step z12_1_ hb)))
   go_ret2
   exact ⟨_, zs15_5, zs15_6, zs15_7⟩
 subst c3
 rw [if_pos rfl] at H
 obtain ⟨y320, hy320⟩ : ∃ y_ : List Int, y_ = (([] : List Int)) := ⟨_, rfl⟩
 replace H : ((impl_solutions.f k l0_0).bind fun t323 => (impl_NeedlessClues.l0 k y320 (t323.length : Int) (l0_0.length : Int) 0 l0_0)) = some (r1, r2) := by first | (rw [hy320]; with_reducible exact H) | (have H2_ := (Option.bind_some _ _).symm.trans H; rw [hy320]; with_reducible exact H2_) | (have H2_ := (Option.bind_some _ _).symm.trans H; with_reducible exact H2_) | with_reducible exact H | (rw [hy320]; exact H) | exact H
 have Ny320 := Aside0.mk hy320
 clear hy320
 replace H := bd_ H; obtain ⟨t323, A4, H⟩ := H
 have H' := Aside0.mk H
 clear H
 go_enter Tryz.func16, Tryz.ntmps16
 go_wp2_with (first | (refine bx_ 1 #[.slice A0_0 l0_0.length c0_0] 26 ?_; intro gb318 hg w5 hbox hb; have BK318 := Aside0.mk (hbox); have GW318 : Aside0 (w.heap.size ≤ gb318) := bs_ hg zB_; have GE318 := GW318; replace HB := Aside0.mk (below_step zB_ hb); clear hb hbox hg; have hcz6_0 : w5.cell? ⟨gb318, 0, none⟩ = some (.slice A0_0 l0_0.length c0_0) := (blk_cell BK318.out 0).trans rfl; have hfz6_0 := blk_frozen BK318.out 0) | ((with_reducible refine gc_ 26 rfl ?_); refine gL_ 8 Tryz.func26 #[.agg #[.slice A0_0 l0_0.length c0_0]] ?_; (with_reducible refine (impl_IsPuzzle.calls k _ _ l0_0 true _ ?side1 ?side2 A2.out).mono ?_); (case side1 => exact zc15_1_); (case side2 => exact HC0_0.out); rintro e w7 ⟨rfl, hb⟩; refine ⟨_, rfl, ?_⟩; replace BK318 := bb_ BK318 z12_6_ hb; replace HB := Aside0.mk (below_step z12_1_ hb)) | ((with_reducible refine gate_dst (N := 10) rfl ?_); refine Kd.R_lit (Kd.int .i64) _ 3 ?hg (N := 10) ?hd (xs := ([] : List Int)) (inner := []) (ok := fun _ => True) (okp := fun _ => True) ?hr ?hp (fun _ hk => hk) trivial (Below.refl _ _) (Nat.le_refl _) (by simp) ?_; (case hd => rfl); (case hg => rfl); (case hr => exact zc15_6_); (case hp => exact (Reps.none _ _)); intro v321 w8 ho9 hb hg_ hnew_; clear hg_ hnew_; (first | rw [← Ny320.out] at ho9 | (simp only [Int.reduceToNat] at ho9; rw [← Ny320.out] at ho9)); have HO322 := Aside0.mk (Kd.R_lower ho9 (below_size z12_1_)); replace BK318 := bb_ BK318 z12_6_ hb; replace HB := Aside0.mk (below_step z12_1_ hb); clear hb ho9; have hcz10_0 : w8.cell? ⟨gb318, 0, none⟩ = some (.slice A0_0 l0_0.length c0_0) := (blk_cell BK318.out 0).trans rfl; have hfz10_0 := blk_frozen BK318.out 0) | ((with_reducible refine gc_ 38 rfl ?_); refine gL_ 13 Tryz.func38 #[.slice A0_0 l0_0.length c0_0] ?_; (with_reducible refine (impl_solutions.calls k _ _ l0_0 t323 _ ?side1 ?side2 A4.out).mono ?_); (case side1 => exact zc15_1_); (case side2 => exact HC0_0.out); rintro e w11 ⟨v324, rfl, ho0, hb⟩; refine ⟨_, rfl, ?_⟩; replace HO322 := Aside0.mk (Kd.R_below (rr_ HO322.out) hb); have HO325 := Aside0.mk (Kd.R_lower ho0 (below_size z12_1_)); replace BK318 := bb_ BK318 z12_6_ hb; replace HB := Aside0.mk (below_step z12_1_ hb); obtain ⟨Ao12, co12, eo12⟩ := Kd.R_slice HO325.out; subst eo12; have hcz13_0 : w11.cell? ⟨gb318, 0, none⟩ = some (.slice A0_0 l0_0.length c0_0) := (blk_cell BK318.out 0).trans rfl; have hfz13_0 := blk_frozen BK318.out 0))
 go_loopg [4, 18] k (fun kq v4 v18 w' => ∃ (x4_1 : List Int) (x18_1 : Int), v18 = .int .i64 x18_1 ∧ Aside0 (impl_NeedlessClues.l0 kq x4_1 (t323.length : Int) (l0_0.length : Int) x18_1 l0_0 = some (r1, r2)) ∧ Aside0 (kq ≤ k) ∧ Aside0 (Kd.R (Kd.int .i64) 3 w' w.heap.size (fun _ => True) v4 x4_1) ∧ Aside0 (w'.heap[gb318]? = some (.cells #[(.slice A0_0 l0_0.length c0_0)] 26 (0, 0))) ∧ Aside0 (Below w.heap.size w w'))
 case atStart => exact ⟨(y320), (0), zV_, H', ⟨Nat.le_refl _⟩, ⟨rr_ HO322.out⟩, ⟨b_ BK318.out⟩, ⟨zs15_7⟩⟩
 case round =>
  clear H'
  obtain ⟨x4_1, x18_1, rfl, HA, HK1, HO_4, BK318, HB⟩ := hrel
  cases gk with
  | zero => exact absurd HA.out (by simp [impl_NeedlessClues.l0])
  | succ k1 =>
   have H := HA.out
   clear HA
   simp only [impl_NeedlessClues.l0] at H
   by_cases c14 : x18_1 < (l0_0.length : Int)
   rotate_left
   · rw [if_neg c14] at H
     have c14b0 := decide_eq_false c14
     clear c14
     simp only [Option.some.injEq, Prod.mk.injEq] at H
     obtain ⟨rfl, rfl⟩ := H
     go_wp2
     go_ret2
     exact ⟨_, zs15_5, zs15_8, zs15_7⟩
   rw [if_pos c14] at H
   have c14b0 := decide_eq_true c14
   clear c14
   replace H := bd_ H; obtain ⟨t326, A15, H⟩ := H
   replace H := bd_ H; obtain ⟨t329, A16, H⟩ := H
   by_cases c17 : (t329.length : Int) = (t323.length : Int)
   · obtain ⟨H, c17b0, c17b1⟩ := ep_ c17 H
     have c17b2 : (t329.length == t323.length) = true := by first | simpa using c17 | (simp at c17 ⊢; omega)
     clear c17
     replace H := gd_ H; obtain ⟨c18, H⟩ := H
     have LMc18 := Aside0.mk c18
     clear c18
     obtain ⟨y332, hy332⟩ : ∃ y_ : List Int, y_ = (x4_1 ++ [x18_1]) := ⟨_, rfl⟩
     replace H : (impl_NeedlessClues.l0 k1 y332 (t323.length : Int) (l0_0.length : Int) (wrap64 (x18_1 + 1)) l0_0) = some (r1, r2) := by first | (rw [hy332]; with_reducible exact H) | (have H2_ := (Option.bind_some _ _).symm.trans H; rw [hy332]; with_reducible exact H2_) | (have H2_ := (Option.bind_some _ _).symm.trans H; with_reducible exact H2_) | with_reducible exact H | (rw [hy332]; exact H) | exact H
     have Ny332 := Aside0.mk hy332
     clear hy332
     have H' := Aside0.mk H
     clear H
     have hcz19_0 : wr.cell? ⟨gb318, 0, none⟩ = some (.slice A0_0 l0_0.length c0_0) := (blk_cell BK318.out 0).trans rfl
     have hfz19_0 := blk_frozen BK318.out 0
     go_wp2_with (first | ((with_reducible refine gc_ 42 rfl ?_); refine gL_ 24 Tryz.func42 #[.slice A0_0 l0_0.length c0_0, .int .i64 x18_1] ?_; (with_reducible refine (impl_dropped.calls _ _ l0_0 x18_1 t326 _ ?side1 ?side2 A15.out).mono ?_); (case side1 => exact zc15_1_); (case side2 => exact HC0_0.out); rintro e w20 ⟨v327, rfl, ho0, hb⟩; refine ⟨_, rfl, ?_⟩; replace HO_4 := Aside0.mk (Kd.R_below z12_4_ hb); have HO328 := Aside0.mk (Kd.R_lower ho0 (below_size z12_1_)); replace BK318 := bb_ BK318 z12_6_ hb; replace HB := Aside0.mk (below_step z12_1_ hb); obtain ⟨Ao21, co21, eo21⟩ := Kd.R_slice HO328.out; subst eo21) | ((with_reducible refine gc_ 38 rfl ?_); refine gL_ 25 Tryz.func38 #[.slice Ao21 t326.length co21] ?_; (with_reducible refine (impl_solutions.calls k1 _ _ t326 t329 _ ?side1 ?side2 A16.out).mono ?_); (case side1 => exact zc15_3_); (case side2 => exact (Kd.R_reads' HO328.out).2.1); rintro e w22 ⟨v330, rfl, ho0, hb⟩; refine ⟨_, rfl, ?_⟩; replace HO_4 := Aside0.mk (Kd.R_below z12_4_ hb); replace HO328 := Aside0.mk (Kd.R_below z12_10_ hb); have HO331 := Aside0.mk (Kd.R_lower ho0 (below_size z12_1_)); replace BK318 := bb_ BK318 z12_6_ hb; replace HB := Aside0.mk (below_step z12_1_ hb); obtain ⟨Ao23, co23, eo23⟩ := Kd.R_slice HO331.out; subst eo23) | ((with_reducible refine gate_builtin (b := .append) (xs := #[.tmp 29, .tmp 31]) rfl ?_); at_builtin; refine Kd.R_append (Kd.int .i64) (w0 := w) w.heap.size rfl (.tmp 29) (.tmp 31) 37 3 (.int .i64 0) 8 rfl Tryz.underlying37 info3 rfl (by decide) (by omega) u4 x4_1 x18_1 [.int .i64 x18_1] (fun _ => True) (fun _ => False) rfl rfl ?aP (fun _ hk => hk.elim) ?aF ?aO ?aB ?aS ?aL ?_; (case aP => exact rfl); (case aB => exact z12_1_); (case aF => exact (fun _ _ => trivial)); (case aO => exact z12_4_); (case aS => exact (below_size z12_1_)); (case aL => have := LMc18.out; omega); intro v333 w24 ho hb hg hat; rw [← Ny332.out] at ho; replace BK318 := Aside0.mk (blk_grown (g := gb318) (o := .cells #[.slice A0_0 l0_0.length c0_0] 26 (0, 0)) z12_6_ hg (Kd.R_ne HO_4.out BK318.out (by decide))); replace HO328 := Aside0.mk (Kd.R_over' z12_10_ (Kd.R_typed z12_4_) (by decide) hg); replace HO331 := Aside0.mk (Kd.R_over' (rr_ HO331.out) (Kd.R_typed z12_4_) (by decide) hg); replace HB := Aside0.mk (hb); have HO334 := Aside0.mk (ho); clear HO_4; clear ho hb hg hat))
     go_roundg k1
     case measure => have := HK1.out; omega
     case rel => exact ⟨(y332), (wrap64 (x18_1 + 1)), zV_, H', ⟨zs15_9⟩, ⟨rr_ HO334.out⟩, ⟨b_ BK318.out⟩, ⟨zs15_7⟩⟩
   obtain ⟨H, c17b0, c17b1⟩ := en_ c17 H
   have c17b2 : (t329.length == t323.length) = false := by first | simpa using c17 | (simp at c17 ⊢; omega)
   have H' := Aside0.mk H
   clear H
   have hcz25_0 : wr.cell? ⟨gb318, 0, none⟩ = some (.slice A0_0 l0_0.length c0_0) := (blk_cell BK318.out 0).trans rfl
   have hfz25_0 := blk_frozen BK318.out 0
   go_wp2_with (first | ((with_reducible refine gc_ 42 rfl ?_); refine gL_ 24 Tryz.func42 #[.slice A0_0 l0_0.length c0_0, .int .i64 x18_1] ?_; (with_reducible refine (impl_dropped.calls _ _ l0_0 x18_1 t326 _ ?side1 ?side2 A15.out).mono ?_); (case side1 => exact zc15_1_); (case side2 => exact HC0_0.out); rintro e w26 ⟨v327, rfl, ho0, hb⟩; refine ⟨_, rfl, ?_⟩; replace HO_4 := Aside0.mk (Kd.R_below z12_4_ hb); have HO328 := Aside0.mk (Kd.R_lower ho0 (below_size z12_1_)); replace BK318 := bb_ BK318 z12_6_ hb; replace HB := Aside0.mk (below_step z12_1_ hb); obtain ⟨Ao27, co27, eo27⟩ := Kd.R_slice HO328.out; subst eo27) | ((with_reducible refine gc_ 38 rfl ?_); refine gL_ 25 Tryz.func38 #[.slice Ao27 t326.length co27] ?_; (with_reducible refine (impl_solutions.calls k1 _ _ t326 t329 _ ?side1 ?side2 A16.out).mono ?_); (case side1 => exact zc15_3_); (case side2 => exact (Kd.R_reads' HO328.out).2.1); rintro e w28 ⟨v330, rfl, ho0, hb⟩; refine ⟨_, rfl, ?_⟩; replace HO_4 := Aside0.mk (Kd.R_below z12_4_ hb); replace HO328 := Aside0.mk (Kd.R_below z12_10_ hb); have HO331 := Aside0.mk (Kd.R_lower ho0 (below_size z12_1_)); replace BK318 := bb_ BK318 z12_6_ hb; replace HB := Aside0.mk (below_step z12_1_ hb); obtain ⟨Ao29, co29, eo29⟩ := Kd.R_slice HO331.out; subst eo29))
   go_roundg k1
   case measure => have := HK1.out; omega
   case rel => exact ⟨(x4_1), (wrap64 (x18_1 + 1)), zV_, H', ⟨zs15_9⟩, ⟨rr_ HO_4.out⟩, ⟨b_ BK318.out⟩, ⟨zs15_7⟩⟩

/-! ### spec_pzWithout: function 43 -/
def spec_pzWithout.f (l0 : List (S46)) (a1 : Int) : Option ((List (S46))) := (some (([] : List (S46)) : List (S46))).bind fun y335 => (if 0 ≤ a1 then (if a1 ≤ (l0.length : Int) then ((some (l0.take (a1 : Int).toNat : List (S46))).bind fun y338 => (if y335.length + y338.length < 5864062014805 then ((some (y335 ++ y338 : List (S46))).bind fun y342 => (if 0 ≤ (wrap64 (a1 + 1)) then (if (wrap64 (a1 + 1)) ≤ (l0.length : Int) then ((some (l0.drop ((wrap64 (a1 + 1)) : Int).toNat : List (S46))).bind fun y345 => (if y342.length + y345.length < 5864062014805 then (some (y342 ++ y345)) else (none))) else (none)) else (none))) else (none))) else (none)) else (none))
def spec_pzWithout.T1 : Bool × List (List Nat × List Nat) := (true, [([], []), ([], []), ([], []), ([1, 2], [1, 2]), ([0, 3], [0, 3]), ([], []), ([], []), ([6], [6]), ([5, 7], [5, 7]), ([4, 8, 4], [4, 8]), ([9, 9, 0, 1, 2, 3, 4, 5, 6, 7, 8, 9], [9])])
def spec_pzWithout.B1 : List Nat := [0, 0, 0, 6, 15, 0, 0, 64, 224, 511, 1023]
theorem spec_pzWithout.tab1 : rtab .any (opsOf Tryz.f43 1) = spec_pzWithout.T1 := by kernel_rfl
theorem spec_pzWithout.bits1 : waitsOk spec_pzWithout.T1.2 spec_pzWithout.B1 = true := by kernel_rfl
theorem spec_pzWithout.calls (A0 : Option Addr) (c0 : Nat) (l0 : List (S46)) (a1 : Int) (r : List (S46)) (w : World) (hr0 : Kd.C k46 w A0 l0.length l0) (hc0 : l0.length ≤ c0) (h : spec_pzWithout.f l0 a1 = some r) :
 Calls Tryz.prog 43 #[.slice A0 l0.length c0, .int .i64 a1] w fun e w' => ∃ v0_ : Value, e = .returned (v0_) ∧ Kd.R k46 46 w' w.heap.size (fun _ => True) v0_ r ∧ Below w.heap.size w w' := by
 have HR0 := Aside0.mk hr0
 have HC0 := Aside0.mk hc0
 clear hr0 hc0
 have HB := Aside0.mk (Below.refl w.heap.size w)
 unfold spec_pzWithout.f at h
 have H := h
 clear h
 obtain ⟨y335, hy335⟩ : ∃ y_ : List (S46), y_ = (([] : List (S46))) := ⟨_, rfl⟩
 replace H : (if 0 ≤ a1 then (if a1 ≤ (l0.length : Int) then ((some (l0.take (a1 : Int).toNat : List (S46))).bind fun y338 => (if y335.length + y338.length < 5864062014805 then ((some (y335 ++ y338 : List (S46))).bind fun y342 => (if 0 ≤ (wrap64 (a1 + 1)) then (if (wrap64 (a1 + 1)) ≤ (l0.length : Int) then ((some (l0.drop ((wrap64 (a1 + 1)) : Int).toNat : List (S46))).bind fun y345 => (if y342.length + y345.length < 5864062014805 then (some (y342 ++ y345)) else (none))) else (none)) else (none))) else (none))) else (none)) else (none)) = some r := by first | (rw [hy335]; with_reducible exact H) | (have H2_ := (Option.bind_some _ _).symm.trans H; rw [hy335]; with_reducible exact H2_) | (have H2_ := (Option.bind_some _ _).symm.trans H; with_reducible exact H2_) | with_reducible exact H | (rw [hy335]; exact H) | exact H
 have Ny335 := Aside0.mk hy335
 clear hy335
 replace H := gd_ H; obtain ⟨c3, H⟩ := H
 have c3b0 := eq_true c3
 have c3b1 : decide (0 ≤ a1) = true := decide_eq_true c3
 clear c3
 replace H := gd_ H; obtain ⟨c4, H⟩ := H
 have c4b0 := eq_true c4
 have c4b1 : decide (a1 ≤ (l0.length : Int)) = true := decide_eq_true c4
 clear c4
 obtain ⟨y338, hy338⟩ : ∃ y_ : List (S46), y_ = (l0.take (a1 : Int).toNat) := ⟨_, rfl⟩
 replace H : (if y335.length + y338.length < 5864062014805 then ((some (y335 ++ y338 : List (S46))).bind fun y342 => (if 0 ≤ (wrap64 (a1 + 1)) then (if (wrap64 (a1 + 1)) ≤ (l0.length : Int) then ((some (l0.drop ((wrap64 (a1 + 1)) : Int).toNat : List (S46))).bind fun y345 => (if y342.length + y345.length < 5864062014805 then (some (y342 ++ y345)) else (none))) else (none)) else (none))) else (none)) = some r := by first | (rw [hy338]; with_reducible exact H) | (have H2_ := (Option.bind_some _ _).symm.trans H; rw [hy338]; with_reducible exact H2_) | (have H2_ := (Option.bind_some _ _).symm.trans H; with_reducible exact H2_) | with_reducible exact H | (rw [hy338]; exact H) | exact H
 have Ny338 := Aside0.mk hy338
 clear hy338
 replace H := gd_ H; obtain ⟨c5, H⟩ := H
 have LMc5 := Aside0.mk c5
 clear c5
 obtain ⟨y342, hy342⟩ : ∃ y_ : List (S46), y_ = (y335 ++ y338) := ⟨_, rfl⟩
 replace H : (if 0 ≤ (wrap64 (a1 + 1)) then (if (wrap64 (a1 + 1)) ≤ (l0.length : Int) then ((some (l0.drop ((wrap64 (a1 + 1)) : Int).toNat : List (S46))).bind fun y345 => (if y342.length + y345.length < 5864062014805 then (some (y342 ++ y345)) else (none))) else (none)) else (none)) = some r := by first | (rw [hy342]; with_reducible exact H) | (have H2_ := (Option.bind_some _ _).symm.trans H; rw [hy342]; with_reducible exact H2_) | (have H2_ := (Option.bind_some _ _).symm.trans H; with_reducible exact H2_) | with_reducible exact H | (rw [hy342]; exact H) | exact H
 have Ny342 := Aside0.mk hy342
 clear hy342
 obtain ⟨ji6, hji6⟩ : ∃ j_ : Int, (wrap64 (a1 + 1)) = j_ := ⟨_, rfl⟩
 replace H : (if 0 ≤ (ji6) then (if (ji6) ≤ (l0.length : Int) then ((some (l0.drop ((ji6) : Int).toNat : List (S46))).bind fun y345 => (if y342.length + y345.length < 5864062014805 then (some (y342 ++ y345)) else (none))) else (none)) else (none)) = some r := by first | (rw [hji6] at H; exact H) | (simp only [hji6] at H ⊢; exact H)
 have hji6w : (IntKind.i64.wrap (a1 + 1)) = ji6 := (i64_w _).trans hji6
 replace H := gd_ H; obtain ⟨c7, H⟩ := H
 have c7b0 := eq_true c7
 have c7b1 : decide (0 ≤ (ji6)) = true := decide_eq_true c7
 clear c7
 replace H := gd_ H; obtain ⟨c8, H⟩ := H
 have c8b0 := eq_true c8
 have c8b1 : decide ((ji6) ≤ (l0.length : Int)) = true := decide_eq_true c8
 clear c8
 obtain ⟨y345, hy345⟩ : ∃ y_ : List (S46), y_ = (l0.drop ((ji6) : Int).toNat) := ⟨_, rfl⟩
 replace H : (if y342.length + y345.length < 5864062014805 then (some (y342 ++ y345)) else (none)) = some r := by first | (rw [hy345]; with_reducible exact H) | (have H2_ := (Option.bind_some _ _).symm.trans H; rw [hy345]; with_reducible exact H2_) | (have H2_ := (Option.bind_some _ _).symm.trans H; with_reducible exact H2_) | with_reducible exact H | (rw [hy345]; exact H) | exact H
 have Ny345 := Aside0.mk hy345
 clear hy345
 replace H := gd_ H; obtain ⟨c9, H⟩ := H
 have LMc9 := Aside0.mk c9
 clear c9
 obtain ⟨y349, hy349⟩ : ∃ y_ : List (S46), y_ = (y342 ++ y345) := ⟨_, rfl⟩
 replace H : (some y349) = some r := by first | (rw [hy349]; with_reducible exact H) | (have H2_ := (Option.bind_some _ _).symm.trans H; rw [hy349]; with_reducible exact H2_) | (have H2_ := (Option.bind_some _ _).symm.trans H; with_reducible exact H2_) | with_reducible exact H | (rw [hy349]; exact H) | exact H
 have Ny349 := Aside0.mk hy349
 clear hy349
 obtain rfl := Option.some.inj H
 go_enter Tryz.func43, Tryz.ntmps43
 try go_wp2
 replace HB := Aside0.mk (below_drew1 HB.out)
 have q11 : (a1 : Int) ≤ ((l0.length : Int) : Int) := of_decide_eq_true zS_
 obtain ⟨i011, hi011, _, hsz11, _⟩ := info_parts info46
 have hroom11 : l0.length ≤ c0 := HC0.out
 have hC11 : Kd.C k46 _ A0 l0.length l0 := HR0.out
 have hcut11 := cut_to (P := Tryz.prog) 24 46 .i64 Tryz.underlying24 hi011 A0 l0.length c0 a1 (of_decide_eq_true zS_) q11 hroom11
 have hr11 := Kd.C_take (m := (a1 : Int).toNat) hC11 (by omega)
 have hy11 : y338.length = (a1 : Int).toNat := (by rw [Ny338.out, List.length_take]; omega)
 rw [← Ny338.out] at hr11
 rw [← hy11] at hcut11
 have HR341 := Aside0.mk hr11
 have HC341 := Aside0.mk (show y338.length ≤ c0 from by omega)
 clear hr11 hC11 hroom11 hi011 hsz11
 have KY11 := Aside0.mk hy11
 clear hy11
 replace q11 := eq_true q11
 have q12 : ((ji6) : Int) ≤ ((l0.length : Int) : Int) := of_decide_eq_true zS_
 obtain ⟨i012, hi012, _, hsz12, _⟩ := info_parts info46
 have hroom12 : l0.length ≤ c0 := HC0.out
 have hC12 : Kd.C k46 _ A0 l0.length l0 := HR0.out
 have q012 : (0 : Int) ≤ ((ji6) : Int) := of_decide_eq_true zS_
 have hcut12 := cut_from (P := Tryz.prog) 24 46 .i64 Tryz.underlying24 hi012 3 hsz12 A0 l0.length c0 (ji6) q012 q12
 have hr12 := Kd.C_drop (m := ((ji6) : Int).toNat) (c := c0) hC12 (by omega) hroom12
 obtain ⟨A12, hA12⟩ : ∃ A1, A1 = (if c0 = ((ji6) : Int).toNat then A0 else (A0 : Option Addr).map (·.add (((ji6) : Int).toNat * 3))) := ⟨_, rfl⟩
 obtain ⟨c12, hc12⟩ : ∃ c1, c1 = c0 - ((ji6) : Int).toNat := ⟨_, rfl⟩
 have hy12 : y345.length = l0.length - ((ji6) : Int).toNat := (by rw [Ny345.out, List.length_drop] <;> omega)
 rw [show (l0).drop ((ji6) : Int).toNat = y345 from Ny345.out.symm] at hr12
 replace hr12 : Kd.C k46 _ A12 y345.length y345 := (by rw [hA12]; exact hr12)
 rw [← hy12, ← hA12, ← hc12] at hcut12
 have HR348 := Aside0.mk hr12
 have HC348 := Aside0.mk (show y345.length ≤ c12 from by rw [hy12, hc12]; exact Nat.sub_le_sub_right hroom12 _)
 clear hr12 hC12 hroom12 hi012 hsz12 hc12
 have KY12 := Aside0.mk hy12
 have KA12 := Aside0.mk hA12
 clear hy12 hA12
 replace q12 := eq_true q12
 refine start_ (n := 11) (S := fun w' => True) (ds := []) #[false, false, false, false, false, false, false, false, false, false, false] (by kernel_rfl) rfl rfl trivial (fun hHeld => ?_); refine with_tabW spec_pzWithout.tab1 spec_pzWithout.bits1 (fun HT_ HW_ => ?_)
 generalize w.drew = w10 at HB HR341 HR348 hHeld ⊢
 refine pq_ 1 6 ?_
 refine pq_ 2 7 ?_
 refine pq_ 3 8 ?_
 refine pq_ 5 10 ?_
 refine pq_ 6 11 ?_
 refine pq_ 7 12 ?_
 refine pq_ 8 13 ?_
 refine one_ (i := 0) (N := some 5) #[true, true, true, true, false, true, true, true, true, false, false] rfl rfl (one_of HT_.out (by kernel_rfl)) (by decide) (fun K hK => ?_)
 refine Kd.R_lit_step k46 _ 46 ?hg (N := 5) ?hd (xs := ([] : List (S46))) (inner := []) (ok := fun _ => True) (okp := fun _ => True) ?hr ?hp (fun _ hk => hk) trivial (Below.refl _ _) (Nat.le_refl _) (by simp) ?_; (case hd => rfl); (case hg => rfl); (case hr => exact zc15_6_); (case hp => exact (Reps.none _ _))
 intro v336 w13 ho14 hb hg_ hnew_
 clear hg_ hnew_
 (first | rw [← Ny335.out] at ho14 | (simp only [Int.reduceToNat] at ho14; rw [← Ny335.out] at ho14))
 have HO337 := Aside0.mk (Kd.R_lower ho14 (below_size zB_))
 replace HB := Aside0.mk (below_step zB_ hb)
 clear hb ho14
 refine hK.out _ _ trivial (fun hHeld => ?_)
 clear hK K
 refine norm_ (a' := ?_) ?_ ?_
 rotate_left
 · show Act.put _ (some 5) _ = _
   simp only [Act.put, List.setIfInBounds_toArray, List.set_cons_zero, List.set_cons_succ, i64_w, i32_w]
   rfl
 refine one_ (i := 4) (N := some 9) #[true, true, true, true, true, true, true, true, true, false, false] rfl rfl (one_of HT_.out (by kernel_rfl)) (by decide) (fun K hK => ?_)
 refine Kd.R_append_rows_step k46 (w0 := w) w.heap.size (by rfl) (.tmp 5) (.tmp 8) 24 46 (.agg #[(.int .i64 0), (.int .i64 0), (.int .i64 0)]) 24 rfl Tryz.underlying24 info46 rfl (by decide) (by omega) v336 y335 y338 _ _ _ (fun _ => True) (fun _ => False) rfl rfl ?aO ?aR (fun _ _ h => h) (fun _ h => h.elim) ?aF ?aB ?aS ?aL ?_
 (case aR => repeat (first | exact (Kd.C_below HR341.out HB.out) | (with_reducible refine Kd.C_alloc ?_ _) | (with_reducible refine Kd.C_drewN ?_ _) | (with_reducible refine Kd.C_drew ?_)))
 (case aB => exact zB_)
 (case aF => exact (fun _ _ => trivial))
 (case aO => exact (rr_ HO337.out))
 (case aS => exact (below_size zB_))
 (case aL => have := LMc5.out; omega)
 intro v343 w15 ho hb hg hat
 rw [← Ny342.out] at ho
 replace HB := Aside0.mk (hb)
 have HO344 := Aside0.mk (ho)
 clear HO337
 clear ho hb hg hat
 refine hK.out _ _ trivial (fun hHeld => ?_)
 clear hK K
 refine norm_ (a' := ?_) ?_ ?_
 rotate_left
 · show Act.put _ (some 9) _ = _
   simp only [Act.put, List.setIfInBounds_toArray, List.set_cons_zero, List.set_cons_succ, i64_w, i32_w]
   rfl
 refine one_ (i := 9) (N := some 14) #[true, true, true, true, true, true, true, true, true, true, false] rfl rfl (one_of HT_.out (by kernel_rfl)) (by decide) (fun K hK => ?_)
 refine Kd.R_append_rows_step k46 (w0 := w) w.heap.size (by rfl) (.tmp 9) (.tmp 13) 24 46 (.agg #[(.int .i64 0), (.int .i64 0), (.int .i64 0)]) 24 rfl Tryz.underlying24 info46 rfl (by decide) (by omega) v343 y342 y345 _ _ _ (fun _ => True) (fun _ => False) rfl rfl ?aO ?aR (fun _ _ h => h) (fun _ h => h.elim) ?aF ?aB ?aS ?aL ?_
 (case aR => repeat (first | exact (Kd.C_below HR348.out HB.out) | (with_reducible refine Kd.C_alloc ?_ _) | (with_reducible refine Kd.C_drewN ?_ _) | (with_reducible refine Kd.C_drew ?_)))
 (case aB => exact zB_)
 (case aF => exact (fun _ _ => trivial))
 (case aO => exact (rr_ HO344.out))
 (case aS => exact (below_size zB_))
 (case aL => have := LMc9.out; omega)
 intro v350 w16 ho hb hg hat
 rw [← Ny349.out] at ho
 replace HB := Aside0.mk (hb)
 have HO351 := Aside0.mk (ho)
 clear HO344
 clear ho hb hg hat
 refine hK.out _ _ trivial (fun hHeld => ?_)
 clear hK K
 refine norm_ (a' := ?_) ?_ ?_
 rotate_left
 · show Act.put _ (some 14) _ = _
   simp only [Act.put, List.setIfInBounds_toArray, List.set_cons_zero, List.set_cons_succ, i64_w, i32_w]
   rfl
 refine pq_ 10 4 ?_
 refine done_ (done_of HT_.out (by kernel_rfl)) ?_
 try go_wp2
 go_ret
 exact ⟨_, by first | rfl | (simp [errW_none, errW_some] <;> rfl) | (simp only [← hji6]; first | rfl | (simp [errW_none, errW_some] <;> rfl)) | (simp [*, errW_none, errW_some] <;> rfl), by exact rr_ HO351.out, zB_⟩

/-! ### spec_NeedlessClues: function 17 -/
def spec_NeedlessClues.l0 : Nat → List Int → Int → Int → Int → List (S46) → Option (List Int × Bool)
 | 0, _, _, _, _, _ => none
 | k + 1, x4, x5, x16, x17, x353000 => if x17 < x16 then ((spec_pzWithout.f x353000 x17).bind fun t357 => ((spec_pzAll.f k t357).bind fun t360 => (if (t360.length : Int) = x5 then (if x4.length < 17592186044416 then (spec_NeedlessClues.l0 k (x4 ++ [x17]) x5 x16 (wrap64 (x17 + 1)) x353000) else (none)) else (spec_NeedlessClues.l0 k x4 x5 x16 (wrap64 (x17 + 1)) x353000)))) else (some (x4, true))
def spec_NeedlessClues.f (k : Nat) (l0_0 : List (S46)) : Option (List Int × Bool) := (spec_pzGood.f k l0_0).bind fun t353 => (if t353 = true then ((spec_pzAll.f k l0_0).bind fun t354 => (spec_NeedlessClues.l0 k ([] : List Int) (t354.length : Int) (l0_0.length : Int) 0 l0_0)) else (some (([] : List Int), false)))
theorem spec_NeedlessClues.mono_l : ∀ k, (∀ y0 y1 y2 y3 y4, LeO (spec_NeedlessClues.l0 k y0 y1 y2 y3 y4) (spec_NeedlessClues.l0 (k + 1) y0 y1 y2 y3 y4))
 | 0 => fun _ _ _ _ _ r h => by simp [spec_NeedlessClues.l0] at h
 | k + 1 => by
  have ih0 := spec_NeedlessClues.mono_l k
  intro y0 y1 y2 y3 y4
  unfold spec_NeedlessClues.l0
  have m1_ := @ih0
  have m2_ := @spec_pzAll.mono
  have m3_ := @spec_pzGood.mono
  exact zM_
theorem spec_NeedlessClues.mono : ∀ a0 k, LeO (spec_NeedlessClues.f k a0) (spec_NeedlessClues.f (k + 1) a0) := by
 intro a0 k
 have ih0 := spec_NeedlessClues.mono_l k
 unfold spec_NeedlessClues.f
 have m1_ := @ih0
 have m2_ := @spec_pzAll.mono
 have m3_ := @spec_pzGood.mono
 exact zM_
theorem spec_NeedlessClues.calls (k : Nat) (A0_0 : Option Addr) (c0_0 : Nat) (l0_0 : List (S46)) (r1 : List Int) (r2 : Bool) (w : World) (hr0_0 : Kd.C k46 w A0_0 l0_0.length l0_0) (hc0_0 : l0_0.length ≤ c0_0) (h : spec_NeedlessClues.f k l0_0 = some (r1, r2)) :
 Calls Tryz.prog 17 #[.agg #[.slice A0_0 l0_0.length c0_0]] w fun e w' => ∃ v0_ : Value, e = .returned (.tuple #[v0_, .bool r2]) ∧ Kd.R (Kd.int .i64) 3 w' w.heap.size (fun _ => True) v0_ r1 ∧ Below w.heap.size w w' := by
 have hu26 := Tryz.underlying26
 have HR0_0 := Aside0.mk hr0_0
 have HC0_0 := Aside0.mk hc0_0
 clear hr0_0 hc0_0
 have HB := Aside0.mk (Below.refl w.heap.size w)
 unfold spec_NeedlessClues.f at h
 have H := h
 clear h
 replace H := bd_ H; obtain ⟨t353, A2, H⟩ := H
 by_cases c3 : t353 = true
 rotate_left
 · replace H := bf_ c3 H; obtain ⟨rfl, H⟩ := H
   simp only [Option.some.injEq, Prod.mk.injEq] at H
   obtain ⟨rfl, rfl⟩ := H
   go_enter Tryz.func17, Tryz.ntmps17
   go_wp2_with (first | (refine bx_ 1 #[.slice A0_0 l0_0.length c0_0] 26 ?_; intro gb352 hg w28 hbox hb; have BK352 := Aside0.mk (hbox); have GW352 : Aside0 (w.heap.size ≤ gb352) := bs_ hg zB_; have GE352 := GW352; replace HB := Aside0.mk (below_step zB_ hb); clear hb hbox hg; have hcz29_0 : w28.cell? ⟨gb352, 0, none⟩ = some (.slice A0_0 l0_0.length c0_0) := (blk_cell BK352.out 0).trans rfl; have hfz29_0 := blk_frozen BK352.out 0) | ((with_reducible refine gc_ 39 rfl ?_); refine gL_ 8 Tryz.func39 #[.agg #[.slice A0_0 l0_0.length c0_0]] ?_; (with_reducible refine (spec_pzGood.calls k _ _ l0_0 false _ ?side1 ?side2 A2.out).mono ?_); (case side1 => exact zc15_1_); (case side2 => exact HC0_0.out); rintro e w30 ⟨rfl, hb⟩; refine ⟨_, rfl, ?_⟩; replace BK352 := bb_ BK352 z12_7_ hb; replace HB := Aside0.mk (below_step z12_3_ hb)))
   go_ret2
   exact ⟨_, zs15_5, zs15_6, zs15_10⟩
 subst c3
 rw [if_pos rfl] at H
 replace H := bd_ H; obtain ⟨t354, A4, H⟩ := H
 have H' := Aside0.mk H
 clear H
 go_enter Tryz.func17, Tryz.ntmps17
 go_wp2_with (first | (refine bx_ 1 #[.slice A0_0 l0_0.length c0_0] 26 ?_; intro gb352 hg w5 hbox hb; have BK352 := Aside0.mk (hbox); have GW352 : Aside0 (w.heap.size ≤ gb352) := bs_ hg zB_; have GE352 := GW352; replace HB := Aside0.mk (below_step zB_ hb); clear hb hbox hg; have hcz6_0 : w5.cell? ⟨gb352, 0, none⟩ = some (.slice A0_0 l0_0.length c0_0) := (blk_cell BK352.out 0).trans rfl; have hfz6_0 := blk_frozen BK352.out 0) | ((with_reducible refine gc_ 39 rfl ?_); refine gL_ 8 Tryz.func39 #[.agg #[.slice A0_0 l0_0.length c0_0]] ?_; (with_reducible refine (spec_pzGood.calls k _ _ l0_0 true _ ?side1 ?side2 A2.out).mono ?_); (case side1 => exact zc15_1_); (case side2 => exact HC0_0.out); rintro e w7 ⟨rfl, hb⟩; refine ⟨_, rfl, ?_⟩; replace BK352 := bb_ BK352 z12_7_ hb; replace HB := Aside0.mk (below_step z12_3_ hb); have hcz8_0 : w7.cell? ⟨gb352, 0, none⟩ = some (.slice A0_0 l0_0.length c0_0) := (blk_cell BK352.out 0).trans rfl; have hfz8_0 := blk_frozen BK352.out 0) | ((with_reducible refine gc_ 40 rfl ?_); refine gL_ 12 Tryz.func40 #[.slice A0_0 l0_0.length c0_0] ?_; (with_reducible refine (spec_pzAll.calls k _ _ l0_0 t354 _ ?side1 ?side2 A4.out).mono ?_); (case side1 => exact zc15_1_); (case side2 => exact HC0_0.out); rintro e w9 ⟨v355, rfl, ho0, hb⟩; refine ⟨_, rfl, ?_⟩; have HO356 := Aside0.mk (Kd.R_lower ho0 (below_size z12_3_)); replace BK352 := bb_ BK352 z12_7_ hb; replace HB := Aside0.mk (below_step z12_3_ hb); obtain ⟨Ao10, co10, eo10⟩ := Kd.R_slice HO356.out; subst eo10; have hcz11_0 : w9.cell? ⟨gb352, 0, none⟩ = some (.slice A0_0 l0_0.length c0_0) := (blk_cell BK352.out 0).trans rfl; have hfz11_0 := blk_frozen BK352.out 0))
 go_loopg [4, 17] k (fun kq v4 v17 w' => ∃ (x4_1 : List Int) (x17_1 : Int), v17 = .int .i64 x17_1 ∧ Aside0 (spec_NeedlessClues.l0 kq x4_1 (t354.length : Int) (l0_0.length : Int) x17_1 l0_0 = some (r1, r2)) ∧ Aside0 (kq ≤ k) ∧ Aside0 (Kd.R (Kd.int .i64) 3 w' w.heap.size (fun _ => True) v4 x4_1) ∧ Aside0 (w'.heap[gb352]? = some (.cells #[(.slice A0_0 l0_0.length c0_0)] 26 (0, 0))) ∧ Aside0 (Below w.heap.size w w'))
 case atStart => exact ⟨(([] : List Int)), (0), zV_, H', ⟨Nat.le_refl _⟩, ⟨zs15_6⟩, ⟨b_ BK352.out⟩, ⟨zs15_10⟩⟩
 case round =>
  clear H'
  obtain ⟨x4_1, x17_1, rfl, HA, HK1, HO_4, BK352, HB⟩ := hrel
  cases gk with
  | zero => exact absurd HA.out (by simp [spec_NeedlessClues.l0])
  | succ k1 =>
   have H := HA.out
   clear HA
   simp only [spec_NeedlessClues.l0] at H
   by_cases c12 : x17_1 < (l0_0.length : Int)
   rotate_left
   · rw [if_neg c12] at H
     have c12b0 := decide_eq_false c12
     clear c12
     simp only [Option.some.injEq, Prod.mk.injEq] at H
     obtain ⟨rfl, rfl⟩ := H
     go_wp2
     go_ret2
     exact ⟨_, zs15_5, zs15_8, zs15_10⟩
   rw [if_pos c12] at H
   have c12b0 := decide_eq_true c12
   clear c12
   replace H := bd_ H; obtain ⟨t357, A13, H⟩ := H
   replace H := bd_ H; obtain ⟨t360, A14, H⟩ := H
   by_cases c15 : (t360.length : Int) = (t354.length : Int)
   · obtain ⟨H, c15b0, c15b1⟩ := ep_ c15 H
     have c15b2 : (t360.length == t354.length) = true := by first | simpa using c15 | (simp at c15 ⊢; omega)
     clear c15
     replace H := gd_ H; obtain ⟨c16, H⟩ := H
     have LMc16 := Aside0.mk c16
     clear c16
     obtain ⟨y363, hy363⟩ : ∃ y_ : List Int, y_ = (x4_1 ++ [x17_1]) := ⟨_, rfl⟩
     replace H : (spec_NeedlessClues.l0 k1 y363 (t354.length : Int) (l0_0.length : Int) (wrap64 (x17_1 + 1)) l0_0) = some (r1, r2) := by first | (rw [hy363]; with_reducible exact H) | (have H2_ := (Option.bind_some _ _).symm.trans H; rw [hy363]; with_reducible exact H2_) | (have H2_ := (Option.bind_some _ _).symm.trans H; with_reducible exact H2_) | with_reducible exact H | (rw [hy363]; exact H) | exact H
     have Ny363 := Aside0.mk hy363
     clear hy363
     have H' := Aside0.mk H
     clear H
     have hcz17_0 : wr.cell? ⟨gb352, 0, none⟩ = some (.slice A0_0 l0_0.length c0_0) := (blk_cell BK352.out 0).trans rfl
     have hfz17_0 := blk_frozen BK352.out 0
     go_wp2_with (first | ((with_reducible refine gc_ 43 rfl ?_); refine gL_ 23 Tryz.func43 #[.slice A0_0 l0_0.length c0_0, .int .i64 x17_1] ?_; (with_reducible refine (spec_pzWithout.calls _ _ l0_0 x17_1 t357 _ ?side1 ?side2 A13.out).mono ?_); (case side1 => exact zc15_1_); (case side2 => exact HC0_0.out); rintro e w18 ⟨v358, rfl, ho0, hb⟩; refine ⟨_, rfl, ?_⟩; replace HO_4 := Aside0.mk (Kd.R_below z12_4_ hb); have HO359 := Aside0.mk (Kd.R_lower ho0 (below_size z12_3_)); replace BK352 := bb_ BK352 z12_7_ hb; replace HB := Aside0.mk (below_step z12_3_ hb); obtain ⟨Ao19, co19, eo19⟩ := Kd.R_slice HO359.out; subst eo19) | ((with_reducible refine gc_ 40 rfl ?_); refine gL_ 24 Tryz.func40 #[.slice Ao19 t357.length co19] ?_; (with_reducible refine (spec_pzAll.calls k1 _ _ t357 t360 _ ?side1 ?side2 A14.out).mono ?_); (case side1 => exact zc15_4_); (case side2 => exact (Kd.R_reads' HO359.out).2.1); rintro e w20 ⟨v361, rfl, ho0, hb⟩; refine ⟨_, rfl, ?_⟩; replace HO_4 := Aside0.mk (Kd.R_below z12_4_ hb); replace HO359 := Aside0.mk (Kd.R_below z12_11_ hb); have HO362 := Aside0.mk (Kd.R_lower ho0 (below_size z12_3_)); replace BK352 := bb_ BK352 z12_7_ hb; replace HB := Aside0.mk (below_step z12_3_ hb); obtain ⟨Ao21, co21, eo21⟩ := Kd.R_slice HO362.out; subst eo21) | ((with_reducible refine gate_builtin (b := .append) (xs := #[.tmp 28, .tmp 30]) rfl ?_); at_builtin; refine Kd.R_append (Kd.int .i64) (w0 := w) w.heap.size rfl (.tmp 28) (.tmp 30) 37 3 (.int .i64 0) 8 rfl Tryz.underlying37 info3 rfl (by decide) (by omega) u4 x4_1 x17_1 [.int .i64 x17_1] (fun _ => True) (fun _ => False) rfl rfl ?aP (fun _ hk => hk.elim) ?aF ?aO ?aB ?aS ?aL ?_; (case aP => exact rfl); (case aB => exact z12_3_); (case aF => exact (fun _ _ => trivial)); (case aO => exact z12_4_); (case aS => exact (below_size z12_3_)); (case aL => have := LMc16.out; omega); intro v364 w22 ho hb hg hat; rw [← Ny363.out] at ho; replace BK352 := Aside0.mk (blk_grown (g := gb352) (o := .cells #[.slice A0_0 l0_0.length c0_0] 26 (0, 0)) z12_7_ hg (Kd.R_ne HO_4.out BK352.out (by decide))); replace HO359 := Aside0.mk (Kd.R_over' z12_11_ (Kd.R_typed z12_4_) (by decide) hg); replace HO362 := Aside0.mk (Kd.R_over' (rr_ HO362.out) (Kd.R_typed z12_4_) (by decide) hg); replace HB := Aside0.mk (hb); have HO365 := Aside0.mk (ho); clear HO_4; clear ho hb hg hat))
     go_roundg k1
     case measure => have := HK1.out; omega
     case rel => exact ⟨(y363), (wrap64 (x17_1 + 1)), zV_, H', ⟨zs15_9⟩, ⟨rr_ HO365.out⟩, ⟨b_ BK352.out⟩, ⟨zs15_10⟩⟩
   obtain ⟨H, c15b0, c15b1⟩ := en_ c15 H
   have c15b2 : (t360.length == t354.length) = false := by first | simpa using c15 | (simp at c15 ⊢; omega)
   have H' := Aside0.mk H
   clear H
   have hcz23_0 : wr.cell? ⟨gb352, 0, none⟩ = some (.slice A0_0 l0_0.length c0_0) := (blk_cell BK352.out 0).trans rfl
   have hfz23_0 := blk_frozen BK352.out 0
   go_wp2_with (first | ((with_reducible refine gc_ 43 rfl ?_); refine gL_ 23 Tryz.func43 #[.slice A0_0 l0_0.length c0_0, .int .i64 x17_1] ?_; (with_reducible refine (spec_pzWithout.calls _ _ l0_0 x17_1 t357 _ ?side1 ?side2 A13.out).mono ?_); (case side1 => exact zc15_1_); (case side2 => exact HC0_0.out); rintro e w24 ⟨v358, rfl, ho0, hb⟩; refine ⟨_, rfl, ?_⟩; replace HO_4 := Aside0.mk (Kd.R_below z12_4_ hb); have HO359 := Aside0.mk (Kd.R_lower ho0 (below_size z12_3_)); replace BK352 := bb_ BK352 z12_7_ hb; replace HB := Aside0.mk (below_step z12_3_ hb); obtain ⟨Ao25, co25, eo25⟩ := Kd.R_slice HO359.out; subst eo25) | ((with_reducible refine gc_ 40 rfl ?_); refine gL_ 24 Tryz.func40 #[.slice Ao25 t357.length co25] ?_; (with_reducible refine (spec_pzAll.calls k1 _ _ t357 t360 _ ?side1 ?side2 A14.out).mono ?_); (case side1 => exact zc15_4_); (case side2 => exact (Kd.R_reads' HO359.out).2.1); rintro e w26 ⟨v361, rfl, ho0, hb⟩; refine ⟨_, rfl, ?_⟩; replace HO_4 := Aside0.mk (Kd.R_below z12_4_ hb); replace HO359 := Aside0.mk (Kd.R_below z12_11_ hb); have HO362 := Aside0.mk (Kd.R_lower ho0 (below_size z12_3_)); replace BK352 := bb_ BK352 z12_7_ hb; replace HB := Aside0.mk (below_step z12_3_ hb); obtain ⟨Ao27, co27, eo27⟩ := Kd.R_slice HO362.out; subst eo27))
   go_roundg k1
   case measure => have := HK1.out; omega
   case rel => exact ⟨(x4_1), (wrap64 (x17_1 + 1)), zV_, H', ⟨zs15_9⟩, ⟨rr_ HO_4.out⟩, ⟨b_ BK352.out⟩, ⟨zs15_10⟩⟩

/-! ### impl_LeftByClues: function 18 -/
def impl_LeftByClues.l0 : Nat → List Int → Int → Int → List (S46) → Option (List Int × Bool)
 | 0, _, _, _, _ => none
 | k + 1, x4, x13, x14, x367000 => if x14 < x13 then (if 0 ≤ x14 then (if x14 ≤ (x367000.length : Int) then ((impl_solutions.f k (x367000.take (x14 : Int).toNat)).bind fun t375 => (if x4.length < 17592186044416 then (impl_LeftByClues.l0 k (x4 ++ [(t375.length : Int)]) x13 (wrap64 (x14 + 1)) x367000) else (none))) else (none)) else (none)) else (some (x4, true))
def impl_LeftByClues.f (k : Nat) (l0_0 : List (S46)) : Option (List Int × Bool) := (impl_IsPuzzle.f k l0_0).bind fun t367 => (if t367 = true then (impl_LeftByClues.l0 k (([] : List Int)) (wrap64 ((l0_0.length : Int) + 1)) 0 l0_0) else (some (([] : List Int), false)))
theorem impl_LeftByClues.mono_l : ∀ k, (∀ y0 y1 y2 y3, LeO (impl_LeftByClues.l0 k y0 y1 y2 y3) (impl_LeftByClues.l0 (k + 1) y0 y1 y2 y3))
 | 0 => fun _ _ _ _ r h => by simp [impl_LeftByClues.l0] at h
 | k + 1 => by
  have ih0 := impl_LeftByClues.mono_l k
  intro y0 y1 y2 y3
  unfold impl_LeftByClues.l0
  have m1_ := @ih0
  have m2_ := @impl_IsPuzzle.mono
  have m3_ := @impl_solutions.mono
  exact zM_
theorem impl_LeftByClues.mono : ∀ a0 k, LeO (impl_LeftByClues.f k a0) (impl_LeftByClues.f (k + 1) a0) := by
 intro a0 k
 have ih0 := impl_LeftByClues.mono_l k
 unfold impl_LeftByClues.f
 have m1_ := @ih0
 have m2_ := @impl_IsPuzzle.mono
 have m3_ := @impl_solutions.mono
 exact zM_
theorem impl_LeftByClues.calls (k : Nat) (A0_0 : Option Addr) (c0_0 : Nat) (l0_0 : List (S46)) (r1 : List Int) (r2 : Bool) (w : World) (hr0_0 : Kd.C k46 w A0_0 l0_0.length l0_0) (hc0_0 : l0_0.length ≤ c0_0) (h : impl_LeftByClues.f k l0_0 = some (r1, r2)) :
 Calls Tryz.prog 18 #[.agg #[.slice A0_0 l0_0.length c0_0]] w fun e w' => ∃ v0_ : Value, e = .returned (.tuple #[v0_, .bool r2]) ∧ Kd.R (Kd.int .i64) 3 w' w.heap.size (fun _ => True) v0_ r1 ∧ Below w.heap.size w w' := by
 have hu26 := Tryz.underlying26
 have HR0_0 := Aside0.mk hr0_0
 have HC0_0 := Aside0.mk hc0_0
 clear hr0_0 hc0_0
 have HB := Aside0.mk (Below.refl w.heap.size w)
 unfold impl_LeftByClues.f at h
 have H := h
 clear h
 replace H := bd_ H; obtain ⟨t367, A2, H⟩ := H
 by_cases c3 : t367 = true
 rotate_left
 · replace H := bf_ c3 H; obtain ⟨rfl, H⟩ := H
   simp only [Option.some.injEq, Prod.mk.injEq] at H
   obtain ⟨rfl, rfl⟩ := H
   go_enter Tryz.func18, Tryz.ntmps18
   go_wp2_with (first | (refine bx_ 1 #[.slice A0_0 l0_0.length c0_0] 26 ?_; intro gb366 hg w20 hbox hb; have BK366 := Aside0.mk (hbox); have GW366 : Aside0 (w.heap.size ≤ gb366) := bs_ hg zB_; have GE366 := GW366; replace HB := Aside0.mk (below_step zB_ hb); clear hb hbox hg; have hcz21_0 : w20.cell? ⟨gb366, 0, none⟩ = some (.slice A0_0 l0_0.length c0_0) := (blk_cell BK366.out 0).trans rfl; have hfz21_0 := blk_frozen BK366.out 0) | ((with_reducible refine gc_ 26 rfl ?_); refine gL_ 7 Tryz.func26 #[.agg #[.slice A0_0 l0_0.length c0_0]] ?_; (with_reducible refine (impl_IsPuzzle.calls k _ _ l0_0 false _ ?side1 ?side2 A2.out).mono ?_); (case side1 => exact zc15_1_); (case side2 => exact HC0_0.out); rintro e w22 ⟨rfl, hb⟩; refine ⟨_, rfl, ?_⟩; replace BK366 := bb_ BK366 z12_8_ hb; replace HB := Aside0.mk (below_step z12_5_ hb)))
   go_ret2
   exact ⟨_, zs15_5, zs15_6, zs15_11⟩
 subst c3
 rw [if_pos rfl] at H
 obtain ⟨y368, hy368⟩ : ∃ y_ : List Int, y_ = (([] : List Int)) := ⟨_, rfl⟩
 replace H : (impl_LeftByClues.l0 k y368 (wrap64 ((l0_0.length : Int) + 1)) 0 l0_0) = some (r1, r2) := by first | (rw [hy368]; with_reducible exact H) | (have H2_ := (Option.bind_some _ _).symm.trans H; rw [hy368]; with_reducible exact H2_) | (have H2_ := (Option.bind_some _ _).symm.trans H; with_reducible exact H2_) | with_reducible exact H | (rw [hy368]; exact H) | exact H
 have Ny368 := Aside0.mk hy368
 clear hy368
 have H' := Aside0.mk H
 clear H
 go_enter Tryz.func18, Tryz.ntmps18
 go_wp2_with (first | (refine bx_ 1 #[.slice A0_0 l0_0.length c0_0] 26 ?_; intro gb366 hg w4 hbox hb; have BK366 := Aside0.mk (hbox); have GW366 : Aside0 (w.heap.size ≤ gb366) := bs_ hg zB_; have GE366 := GW366; replace HB := Aside0.mk (below_step zB_ hb); clear hb hbox hg; have hcz5_0 : w4.cell? ⟨gb366, 0, none⟩ = some (.slice A0_0 l0_0.length c0_0) := (blk_cell BK366.out 0).trans rfl; have hfz5_0 := blk_frozen BK366.out 0) | ((with_reducible refine gc_ 26 rfl ?_); refine gL_ 7 Tryz.func26 #[.agg #[.slice A0_0 l0_0.length c0_0]] ?_; (with_reducible refine (impl_IsPuzzle.calls k _ _ l0_0 true _ ?side1 ?side2 A2.out).mono ?_); (case side1 => exact zc15_1_); (case side2 => exact HC0_0.out); rintro e w6 ⟨rfl, hb⟩; refine ⟨_, rfl, ?_⟩; replace BK366 := bb_ BK366 z12_8_ hb; replace HB := Aside0.mk (below_step z12_5_ hb)) | ((with_reducible refine gate_dst (N := 9) rfl ?_); refine Kd.R_lit (Kd.int .i64) _ 3 ?hg (N := 9) ?hd (xs := ([] : List Int)) (inner := []) (ok := fun _ => True) (okp := fun _ => True) ?hr ?hp (fun _ hk => hk) trivial (Below.refl _ _) (Nat.le_refl _) (by simp) ?_; (case hd => rfl); (case hg => rfl); (case hr => exact zc15_6_); (case hp => exact (Reps.none _ _)); intro v369 w7 ho8 hb hg_ hnew_; clear hg_ hnew_; (first | rw [← Ny368.out] at ho8 | (simp only [Int.reduceToNat] at ho8; rw [← Ny368.out] at ho8)); have HO370 := Aside0.mk (Kd.R_lower ho8 (below_size z12_5_)); replace BK366 := bb_ BK366 z12_8_ hb; replace HB := Aside0.mk (below_step z12_5_ hb); clear hb ho8; have hcz9_0 : w7.cell? ⟨gb366, 0, none⟩ = some (.slice A0_0 l0_0.length c0_0) := (blk_cell BK366.out 0).trans rfl; have hfz9_0 := blk_frozen BK366.out 0))
 go_loopg [4, 14] k (fun kq v4 v14 w' => ∃ (x4_1 : List Int) (x14_1 : Int), v14 = .int .i64 x14_1 ∧ Aside0 (impl_LeftByClues.l0 kq x4_1 (wrap64 ((l0_0.length : Int) + 1)) x14_1 l0_0 = some (r1, r2)) ∧ Aside0 (kq ≤ k) ∧ Aside0 (Kd.R (Kd.int .i64) 3 w' w.heap.size (fun _ => True) v4 x4_1) ∧ Aside0 (w'.heap[gb366]? = some (.cells #[(.slice A0_0 l0_0.length c0_0)] 26 (0, 0))) ∧ Aside0 (Below w.heap.size w w'))
 case atStart => exact ⟨(y368), (0), zV_, H', ⟨Nat.le_refl _⟩, ⟨rr_ HO370.out⟩, ⟨b_ BK366.out⟩, ⟨zs15_11⟩⟩
 case round =>
  clear H'
  obtain ⟨x4_1, x14_1, rfl, HA, HK1, HO_4, BK366, HB⟩ := hrel
  cases gk with
  | zero => exact absurd HA.out (by simp [impl_LeftByClues.l0])
  | succ k1 =>
   have H := HA.out
   clear HA
   simp only [impl_LeftByClues.l0] at H
   by_cases c10 : x14_1 < (wrap64 ((l0_0.length : Int) + 1))
   rotate_left
   · rw [if_neg c10] at H
     have c10b0 := decide_eq_false c10
     clear c10
     simp only [Option.some.injEq, Prod.mk.injEq] at H
     obtain ⟨rfl, rfl⟩ := H
     go_wp2
     go_ret2
     exact ⟨_, zs15_5, zs15_8, zs15_11⟩
   rw [if_pos c10] at H
   have c10b0 := decide_eq_true c10
   clear c10
   replace H := gd_ H; obtain ⟨c11, H⟩ := H
   have c11b0 := eq_true c11
   have c11b1 : decide (0 ≤ x14_1) = true := decide_eq_true c11
   clear c11
   replace H := gd_ H; obtain ⟨c12, H⟩ := H
   have c12b0 := eq_true c12
   have c12b1 : decide (x14_1 ≤ (l0_0.length : Int)) = true := decide_eq_true c12
   clear c12
   obtain ⟨y371, hy371⟩ : ∃ y_ : List (S46), y_ = (l0_0.take (x14_1 : Int).toNat) := ⟨_, rfl⟩
   replace H : ((impl_solutions.f k1 y371).bind fun t375 => (if x4_1.length < 17592186044416 then (impl_LeftByClues.l0 k1 (x4_1 ++ [(t375.length : Int)]) (wrap64 ((l0_0.length : Int) + 1)) (wrap64 (x14_1 + 1)) l0_0) else (none))) = some (r1, r2) := by first | (rw [hy371]; with_reducible exact H) | (have H2_ := (Option.bind_some _ _).symm.trans H; rw [hy371]; with_reducible exact H2_) | (have H2_ := (Option.bind_some _ _).symm.trans H; with_reducible exact H2_) | with_reducible exact H | (rw [hy371]; exact H) | exact H
   have Ny371 := Aside0.mk hy371
   clear hy371
   replace H := bd_ H; obtain ⟨t375, A13, H⟩ := H
   replace H := gd_ H; obtain ⟨c14, H⟩ := H
   have LMc14 := Aside0.mk c14
   clear c14
   obtain ⟨y378, hy378⟩ : ∃ y_ : List Int, y_ = (x4_1 ++ [(t375.length : Int)]) := ⟨_, rfl⟩
   replace H : (impl_LeftByClues.l0 k1 y378 (wrap64 ((l0_0.length : Int) + 1)) (wrap64 (x14_1 + 1)) l0_0) = some (r1, r2) := by first | (rw [hy378]; with_reducible exact H) | (have H2_ := (Option.bind_some _ _).symm.trans H; rw [hy378]; with_reducible exact H2_) | (have H2_ := (Option.bind_some _ _).symm.trans H; with_reducible exact H2_) | with_reducible exact H | (rw [hy378]; exact H) | exact H
   have Ny378 := Aside0.mk hy378
   clear hy378
   have H' := Aside0.mk H
   clear H
   have hcz15_0 : wr.cell? ⟨gb366, 0, none⟩ = some (.slice A0_0 l0_0.length c0_0) := (blk_cell BK366.out 0).trans rfl
   have hfz15_0 := blk_frozen BK366.out 0
   have q16 : (x14_1 : Int) ≤ ((l0_0.length : Int) : Int) := of_decide_eq_true zS_
   obtain ⟨i016, hi016, _, hsz16, _⟩ := info_parts info46
   have hroom16 : l0_0.length ≤ c0_0 := HC0_0.out
   have hC16 : Kd.C k46 _ A0_0 l0_0.length l0_0 := HR0_0.out
   have hcut16 := cut_to (P := Tryz.prog) 24 46 .i64 Tryz.underlying24 hi016 A0_0 l0_0.length c0_0 x14_1 (of_decide_eq_true zS_) q16 hroom16
   have hr16 := Kd.C_take (m := (x14_1 : Int).toNat) hC16 (by omega)
   have hy16 : y371.length = (x14_1 : Int).toNat := (by rw [Ny371.out, List.length_take]; omega)
   rw [← Ny371.out] at hr16
   rw [← hy16] at hcut16
   have HR374 := Aside0.mk hr16
   have HC374 := Aside0.mk (show y371.length ≤ c0_0 from by omega)
   clear hr16 hC16 hroom16 hi016 hsz16
   have KY16 := Aside0.mk hy16
   clear hy16
   replace q16 := eq_true q16
   go_wp2_with (first | ((with_reducible refine gc_ 38 rfl ?_); refine gL_ 22 Tryz.func38 #[.slice A0_0 y371.length c0_0] ?_; (with_reducible refine (impl_solutions.calls k1 _ _ y371 t375 _ ?side1 ?side2 A13.out).mono ?_); (case side1 => repeat (first | exact (Kd.C_below HR374.out HB.out) | (with_reducible refine Kd.C_alloc ?_ _) | (with_reducible refine Kd.C_drewN ?_ _) | (with_reducible refine Kd.C_drew ?_))); (case side2 => exact HC374.out); rintro e w17 ⟨v376, rfl, ho0, hb⟩; refine ⟨_, rfl, ?_⟩; replace HO_4 := Aside0.mk (Kd.R_below z12_4_ hb); have HO377 := Aside0.mk (Kd.R_lower ho0 (below_size z12_5_)); replace BK366 := bb_ BK366 z12_8_ hb; replace HB := Aside0.mk (below_step z12_5_ hb); obtain ⟨Ao18, co18, eo18⟩ := Kd.R_slice HO377.out; subst eo18) | ((with_reducible refine gate_builtin (b := .append) (xs := #[.tmp 17, .tmp 24]) rfl ?_); at_builtin; refine Kd.R_append (Kd.int .i64) (w0 := w) w.heap.size rfl (.tmp 17) (.tmp 24) 37 3 (.int .i64 0) 8 rfl Tryz.underlying37 info3 rfl (by decide) (by omega) u4 x4_1 (t375.length : Int) [.int .i64 (t375.length : Int)] (fun _ => True) (fun _ => False) rfl rfl ?aP (fun _ hk => hk.elim) ?aF ?aO ?aB ?aS ?aL ?_; (case aP => exact rfl); (case aB => exact z12_5_); (case aF => exact (fun _ _ => trivial)); (case aO => exact z12_4_); (case aS => exact (below_size z12_5_)); (case aL => have := LMc14.out; omega); intro v379 w19 ho hb hg hat; rw [← Ny378.out] at ho; replace BK366 := Aside0.mk (blk_grown (g := gb366) (o := .cells #[.slice A0_0 l0_0.length c0_0] 26 (0, 0)) z12_8_ hg (Kd.R_ne HO_4.out BK366.out (by decide))); replace HO377 := Aside0.mk (Kd.R_over' (rr_ HO377.out) (Kd.R_typed z12_4_) (by decide) hg); replace HB := Aside0.mk (hb); have HO380 := Aside0.mk (ho); clear HO_4; clear ho hb hg hat))
   go_roundg k1
   case measure => have := HK1.out; omega
   case rel => exact ⟨(y378), (wrap64 (x14_1 + 1)), zV_, H', ⟨zs15_9⟩, ⟨rr_ HO380.out⟩, ⟨b_ BK366.out⟩, ⟨zs15_11⟩⟩

theorem z13_0_ {p : Prop} (h : p := by refine b_ ?_; refine blk_put (cs := #[.int .i64 ((rd_T46 l0_0 x21_2).f0), .int .i64 ((rd_T46 l0_0 x21_2).f1), .int .i64 0]) ?_ 2 _ rfl; refine b_ ?_; refine blk_put (cs := #[.int .i64 ((rd_T46 l0_0 x21_2).f0), .int .i64 0, .int .i64 0]) ?_ 1 _ rfl; refine b_ ?_; refine blk_put (cs := #[.int .i64 0, .int .i64 0, .int .i64 0]) ?_ 0 _ rfl; exact b_ BK396.out) : p := h
theorem z13_1_ {p : Prop} (h : p := by repeat (first | (with_reducible first | exact HB.out | apply below_alloc | apply pw_below_drewN | apply below_drew1 | refine below_set ?_ GE393.out | refine below_set ?_ GE396.out) | exact HB.out)) : p := h
theorem z13_2_ {p : Prop} (h : p := by (try simp only [List.map_toArray, List.map_cons, List.map_nil]); first | done | rfl | (simp only [List.length_drop, List.length_take]; rfl)) : p := h
theorem z13_3_ {p : Prop} (h : p := by repeat (first | (with_reducible first | exact HB.out | apply below_alloc | apply pw_below_drewN | apply below_drew1 | refine below_set ?_ GE393.out) | exact HB.out)) : p := h
theorem z13_4_ {p : Prop} (h : p := by exact b_ BK393.out) : p := h
theorem z13_6_ {p : Prop} (h : p := by refine b_ ?_; refine blk_far ?_ NB393_396.out _; refine b_ ?_; refine blk_far ?_ NB393_396.out _; refine b_ ?_; refine blk_far ?_ NB393_396.out _; exact b_ BK393.out) : p := h
theorem z13_8_ {p : Prop} (h : p := by repeat (first | (with_reducible first | exact HB.out | apply below_alloc | apply pw_below_drewN | apply below_drew1 | refine below_set ?_ GE403.out) | exact HB.out)) : p := h
theorem z13_9_ {p : Prop} (h : p := by repeat (first | (with_reducible first | exact HB.out | apply below_alloc | apply pw_below_drewN | apply below_drew1 | refine below_set ?_ GE381.out) | exact HB.out)) : p := h
theorem z13_11_ {p : Prop} (h : p := by exact b_ BK403.out) : p := h
theorem z13_12_ {p : Prop} (h : p := by exact b_ BK381.out) : p := h
theorem z13_13_ {p : Prop} (h : p := by exact b_ BK396.out) : p := h
theorem z13_14_ {p : Prop} (h : p := by exact rr_ HO399.out) : p := h
theorem z13_15_ {p : Prop} (h : p := by exact rr_ HO_4.out) : p := h

/-! ### spec_LeftByClues: function 19 -/
def spec_LeftByClues.l0 : Nat → List Int → Int → List (S46) → Option (List Int × Bool)
 | 0, _, _, _ => none
 | k + 1, x4, x5, x382000 => if x5 ≤ (x382000.length : Int) then (if 0 ≤ x5 then ((spec_pzAll.f k (x382000.take (x5 : Int).toNat)).bind fun t387 => (if x4.length < 17592186044416 then (spec_LeftByClues.l0 k (x4 ++ [(t387.length : Int)]) (wrap64 (x5 + 1)) x382000) else (none))) else (none)) else (some (x4, true))
def spec_LeftByClues.f (k : Nat) (l0_0 : List (S46)) : Option (List Int × Bool) := (spec_pzGood.f k l0_0).bind fun t382 => (if t382 = true then (spec_LeftByClues.l0 k ([] : List Int) 0 l0_0) else (some (([] : List Int), false)))
theorem spec_LeftByClues.mono_l : ∀ k, (∀ y0 y1 y2, LeO (spec_LeftByClues.l0 k y0 y1 y2) (spec_LeftByClues.l0 (k + 1) y0 y1 y2))
 | 0 => fun _ _ _ r h => by simp [spec_LeftByClues.l0] at h
 | k + 1 => by
  have ih0 := spec_LeftByClues.mono_l k
  intro y0 y1 y2
  unfold spec_LeftByClues.l0
  have m1_ := @ih0
  have m2_ := @spec_pzAll.mono
  have m3_ := @spec_pzGood.mono
  exact zM_
theorem spec_LeftByClues.mono : ∀ a0 k, LeO (spec_LeftByClues.f k a0) (spec_LeftByClues.f (k + 1) a0) := by
 intro a0 k
 have ih0 := spec_LeftByClues.mono_l k
 unfold spec_LeftByClues.f
 have m1_ := @ih0
 have m2_ := @spec_pzAll.mono
 have m3_ := @spec_pzGood.mono
 exact zM_
theorem spec_LeftByClues.calls (k : Nat) (A0_0 : Option Addr) (c0_0 : Nat) (l0_0 : List (S46)) (r1 : List Int) (r2 : Bool) (w : World) (hr0_0 : Kd.C k46 w A0_0 l0_0.length l0_0) (hc0_0 : l0_0.length ≤ c0_0) (h : spec_LeftByClues.f k l0_0 = some (r1, r2)) :
 Calls Tryz.prog 19 #[.agg #[.slice A0_0 l0_0.length c0_0]] w fun e w' => ∃ v0_ : Value, e = .returned (.tuple #[v0_, .bool r2]) ∧ Kd.R (Kd.int .i64) 3 w' w.heap.size (fun _ => True) v0_ r1 ∧ Below w.heap.size w w' := by
 have hu26 := Tryz.underlying26
 have HR0_0 := Aside0.mk hr0_0
 have HC0_0 := Aside0.mk hc0_0
 clear hr0_0 hc0_0
 have HB := Aside0.mk (Below.refl w.heap.size w)
 unfold spec_LeftByClues.f at h
 have H := h
 clear h
 replace H := bd_ H; obtain ⟨t382, A2, H⟩ := H
 by_cases c3 : t382 = true
 rotate_left
 · replace H := bf_ c3 H; obtain ⟨rfl, H⟩ := H
   simp only [Option.some.injEq, Prod.mk.injEq] at H
   obtain ⟨rfl, rfl⟩ := H
   go_enter Tryz.func19, Tryz.ntmps19
   go_wp2_with (first | (refine bx_ 1 #[.slice A0_0 l0_0.length c0_0] 26 ?_; intro gb381 hg w18 hbox hb; have BK381 := Aside0.mk (hbox); have GW381 : Aside0 (w.heap.size ≤ gb381) := bs_ hg zB_; have GE381 := GW381; replace HB := Aside0.mk (below_step zB_ hb); clear hb hbox hg; have hcz19_0 : w18.cell? ⟨gb381, 0, none⟩ = some (.slice A0_0 l0_0.length c0_0) := (blk_cell BK381.out 0).trans rfl; have hfz19_0 := blk_frozen BK381.out 0) | ((with_reducible refine gc_ 39 rfl ?_); refine gL_ 7 Tryz.func39 #[.agg #[.slice A0_0 l0_0.length c0_0]] ?_; (with_reducible refine (spec_pzGood.calls k _ _ l0_0 false _ ?side1 ?side2 A2.out).mono ?_); (case side1 => exact zc15_1_); (case side2 => exact HC0_0.out); rintro e w20 ⟨rfl, hb⟩; refine ⟨_, rfl, ?_⟩; replace BK381 := bb_ BK381 z13_12_ hb; replace HB := Aside0.mk (below_step z13_9_ hb)))
   go_ret2
   exact ⟨_, zs15_5, zs15_6, zs15_12⟩
 subst c3
 rw [if_pos rfl] at H
 have H' := Aside0.mk H
 clear H
 go_enter Tryz.func19, Tryz.ntmps19
 go_wp2_with (first | (refine bx_ 1 #[.slice A0_0 l0_0.length c0_0] 26 ?_; intro gb381 hg w4 hbox hb; have BK381 := Aside0.mk (hbox); have GW381 : Aside0 (w.heap.size ≤ gb381) := bs_ hg zB_; have GE381 := GW381; replace HB := Aside0.mk (below_step zB_ hb); clear hb hbox hg; have hcz5_0 : w4.cell? ⟨gb381, 0, none⟩ = some (.slice A0_0 l0_0.length c0_0) := (blk_cell BK381.out 0).trans rfl; have hfz5_0 := blk_frozen BK381.out 0) | ((with_reducible refine gc_ 39 rfl ?_); refine gL_ 7 Tryz.func39 #[.agg #[.slice A0_0 l0_0.length c0_0]] ?_; (with_reducible refine (spec_pzGood.calls k _ _ l0_0 true _ ?side1 ?side2 A2.out).mono ?_); (case side1 => exact zc15_1_); (case side2 => exact HC0_0.out); rintro e w6 ⟨rfl, hb⟩; refine ⟨_, rfl, ?_⟩; replace BK381 := bb_ BK381 z13_12_ hb; replace HB := Aside0.mk (below_step z13_9_ hb)))
 go_loopg [4, 5] k (fun kq v4 v5 w' => ∃ (x4_1 : List Int) (x5_1 : Int), v5 = .int .i64 x5_1 ∧ Aside0 (spec_LeftByClues.l0 kq x4_1 x5_1 l0_0 = some (r1, r2)) ∧ Aside0 (kq ≤ k) ∧ Aside0 (Kd.R (Kd.int .i64) 3 w' w.heap.size (fun _ => True) v4 x4_1) ∧ Aside0 (w'.heap[gb381]? = some (.cells #[(.slice A0_0 l0_0.length c0_0)] 26 (0, 0))) ∧ Aside0 (Below w.heap.size w w'))
 case atStart => exact ⟨(([] : List Int)), (0), zV_, H', ⟨Nat.le_refl _⟩, ⟨zs15_6⟩, ⟨b_ BK381.out⟩, ⟨zs15_12⟩⟩
 case round =>
  clear H'
  obtain ⟨x4_1, x5_1, rfl, HA, HK1, HO_4, BK381, HB⟩ := hrel
  cases gk with
  | zero => exact absurd HA.out (by simp [spec_LeftByClues.l0])
  | succ k1 =>
   have H := HA.out
   clear HA
   simp only [spec_LeftByClues.l0] at H
   by_cases c7 : x5_1 ≤ (l0_0.length : Int)
   · rw [if_pos c7] at H
     have c7b0 := decide_eq_true c7
     clear c7
     replace H := gd_ H; obtain ⟨c8, H⟩ := H
     have c8b0 := eq_true c8
     have c8b1 : decide (0 ≤ x5_1) = true := decide_eq_true c8
     clear c8
     have c9b0 := eq_true (of_decide_eq_true zS_ : x5_1 ≤ (l0_0.length : Int))
     obtain ⟨y383, hy383⟩ : ∃ y_ : List (S46), y_ = (l0_0.take (x5_1 : Int).toNat) := ⟨_, rfl⟩
     replace H : ((spec_pzAll.f k1 y383).bind fun t387 => (if x4_1.length < 17592186044416 then (spec_LeftByClues.l0 k1 (x4_1 ++ [(t387.length : Int)]) (wrap64 (x5_1 + 1)) l0_0) else (none))) = some (r1, r2) := by first | (rw [hy383]; with_reducible exact H) | (have H2_ := (Option.bind_some _ _).symm.trans H; rw [hy383]; with_reducible exact H2_) | (have H2_ := (Option.bind_some _ _).symm.trans H; with_reducible exact H2_) | with_reducible exact H | (rw [hy383]; exact H) | exact H
     have Ny383 := Aside0.mk hy383
     clear hy383
     replace H := bd_ H; obtain ⟨t387, A10, H⟩ := H
     replace H := gd_ H; obtain ⟨c11, H⟩ := H
     have LMc11 := Aside0.mk c11
     clear c11
     obtain ⟨y390, hy390⟩ : ∃ y_ : List Int, y_ = (x4_1 ++ [(t387.length : Int)]) := ⟨_, rfl⟩
     replace H : (spec_LeftByClues.l0 k1 y390 (wrap64 (x5_1 + 1)) l0_0) = some (r1, r2) := by first | (rw [hy390]; with_reducible exact H) | (have H2_ := (Option.bind_some _ _).symm.trans H; rw [hy390]; with_reducible exact H2_) | (have H2_ := (Option.bind_some _ _).symm.trans H; with_reducible exact H2_) | with_reducible exact H | (rw [hy390]; exact H) | exact H
     have Ny390 := Aside0.mk hy390
     clear hy390
     have H' := Aside0.mk H
     clear H
     have hcz12_0 : wr.cell? ⟨gb381, 0, none⟩ = some (.slice A0_0 l0_0.length c0_0) := (blk_cell BK381.out 0).trans rfl
     have hfz12_0 := blk_frozen BK381.out 0
     have q13 : (x5_1 : Int) ≤ ((l0_0.length : Int) : Int) := of_decide_eq_true zS_
     obtain ⟨i013, hi013, _, hsz13, _⟩ := info_parts info46
     have hroom13 : l0_0.length ≤ c0_0 := HC0_0.out
     have hC13 : Kd.C k46 _ A0_0 l0_0.length l0_0 := HR0_0.out
     have hcut13 := cut_to (P := Tryz.prog) 24 46 .i64 Tryz.underlying24 hi013 A0_0 l0_0.length c0_0 x5_1 (of_decide_eq_true zS_) q13 hroom13
     have hr13 := Kd.C_take (m := (x5_1 : Int).toNat) hC13 (by omega)
     have hy13 : y383.length = (x5_1 : Int).toNat := (by rw [Ny383.out, List.length_take]; omega)
     rw [← Ny383.out] at hr13
     rw [← hy13] at hcut13
     have HR386 := Aside0.mk hr13
     have HC386 := Aside0.mk (show y383.length ≤ c0_0 from by omega)
     clear hr13 hC13 hroom13 hi013 hsz13
     have KY13 := Aside0.mk hy13
     clear hy13
     replace q13 := eq_true q13
     go_wp2_with (first | ((with_reducible refine gc_ 40 rfl ?_); refine gL_ 21 Tryz.func40 #[.slice A0_0 y383.length c0_0] ?_; (with_reducible refine (spec_pzAll.calls k1 _ _ y383 t387 _ ?side1 ?side2 A10.out).mono ?_); (case side1 => repeat (first | exact (Kd.C_below HR386.out HB.out) | (with_reducible refine Kd.C_alloc ?_ _) | (with_reducible refine Kd.C_drewN ?_ _) | (with_reducible refine Kd.C_drew ?_))); (case side2 => exact HC386.out); rintro e w14 ⟨v388, rfl, ho0, hb⟩; refine ⟨_, rfl, ?_⟩; replace HO_4 := Aside0.mk (Kd.R_below z13_15_ hb); have HO389 := Aside0.mk (Kd.R_lower ho0 (below_size z13_9_)); replace BK381 := bb_ BK381 z13_12_ hb; replace HB := Aside0.mk (below_step z13_9_ hb); obtain ⟨Ao15, co15, eo15⟩ := Kd.R_slice HO389.out; subst eo15) | ((with_reducible refine gate_builtin (b := .append) (xs := #[.tmp 16, .tmp 23]) rfl ?_); at_builtin; refine Kd.R_append (Kd.int .i64) (w0 := w) w.heap.size rfl (.tmp 16) (.tmp 23) 37 3 (.int .i64 0) 8 rfl Tryz.underlying37 info3 rfl (by decide) (by omega) u4 x4_1 (t387.length : Int) [.int .i64 (t387.length : Int)] (fun _ => True) (fun _ => False) rfl rfl ?aP (fun _ hk => hk.elim) ?aF ?aO ?aB ?aS ?aL ?_; (case aP => exact rfl); (case aB => exact z13_9_); (case aF => exact (fun _ _ => trivial)); (case aO => exact z13_15_); (case aS => exact (below_size z13_9_)); (case aL => have := LMc11.out; omega); intro v391 w16 ho hb hg hat; rw [← Ny390.out] at ho; replace BK381 := Aside0.mk (blk_grown (g := gb381) (o := .cells #[.slice A0_0 l0_0.length c0_0] 26 (0, 0)) z13_12_ hg (Kd.R_ne HO_4.out BK381.out (by decide))); replace HO389 := Aside0.mk (Kd.R_over' (rr_ HO389.out) (Kd.R_typed z13_15_) (by decide) hg); replace HB := Aside0.mk (hb); have HO392 := Aside0.mk (ho); clear HO_4; clear ho hb hg hat))
     go_roundg k1
     case measure => have := HK1.out; omega
     case rel => exact ⟨(y390), (wrap64 (x5_1 + 1)), zV_, H', ⟨zs15_9⟩, ⟨rr_ HO392.out⟩, ⟨b_ BK381.out⟩, ⟨zs15_12⟩⟩
   rw [if_neg c7] at H
   have c7b0 := decide_eq_false c7
   clear c7
   simp only [Option.some.injEq, Prod.mk.injEq] at H
   obtain ⟨rfl, rfl⟩ := H
   have hcz17_0 : wr.cell? ⟨gb381, 0, none⟩ = some (.slice A0_0 l0_0.length c0_0) := (blk_cell BK381.out 0).trans rfl
   have hfz17_0 := blk_frozen BK381.out 0
   go_wp2
   go_ret2
   exact ⟨_, zs15_5, zs15_8, zs15_12⟩

/-! ### impl_BestClue: function 20 -/
mutual
def impl_BestClue.j0 : Nat → Bool → List (S46) → Option (Int × Bool)
 | 0, _, _ => none
 | k + 1, x17, x394000 => if x17 = true then (some (0, false)) else (impl_BestClue.l0 k 0 (-1) x394000 (x394000.length : Int) 0)
def impl_BestClue.l0 : Nat → Int → Int → List (S46) → Int → Int → Option (Int × Bool)
 | 0, _, _, _, _, _ => none
 | k + 1, x4, x5, x19, x20, x21 => if x21 < x20 then (if 0 ≤ x21 then (if x21 < (x19.length : Int) then ((impl_solutions.f k (([(⟨(rd_T46 x19 x21).f0, (rd_T46 x19 x21).f1, (rd_T46 x19 x21).f2⟩ : S46)] : List (S46)))).bind fun t400 => (if x5 < 0 then (impl_BestClue.l0 k x21 (t400.length : Int) x19 x20 (wrap64 (x21 + 1))) else (if (t400.length : Int) < x5 then (impl_BestClue.l0 k x21 (t400.length : Int) x19 x20 (wrap64 (x21 + 1))) else (impl_BestClue.l0 k x4 x5 x19 x20 (wrap64 (x21 + 1)))))) else (none)) else (none)) else (some (x4, true))
end
def impl_BestClue.f (k : Nat) (l0_0 : List (S46)) : Option (Int × Bool) := (impl_IsPuzzle.f k l0_0).bind fun t394 => (if t394 = true then (impl_BestClue.j0 k ((l0_0.length : Int) == 0) l0_0) else (impl_BestClue.j0 k true l0_0))
theorem impl_BestClue.mono_l : ∀ k, (∀ y0 y1, LeO (impl_BestClue.j0 k y0 y1) (impl_BestClue.j0 (k + 1) y0 y1)) ∧ (∀ y0 y1 y2 y3 y4, LeO (impl_BestClue.l0 k y0 y1 y2 y3 y4) (impl_BestClue.l0 (k + 1) y0 y1 y2 y3 y4))
 | 0 => ⟨fun _ _ r h => by simp [impl_BestClue.j0] at h, fun _ _ _ _ _ r h => by simp [impl_BestClue.l0] at h⟩
 | k + 1 => by
  obtain ⟨ih0, ih1⟩ := impl_BestClue.mono_l k
  refine ⟨?_, ?_⟩
  · intro y0 y1
    unfold impl_BestClue.j0
    have m1_ := @ih0
    have m2_ := @ih1
    have m3_ := @impl_IsPuzzle.mono
    have m4_ := @impl_solutions.mono
    exact zM_
  intro y0 y1 y2 y3 y4
  unfold impl_BestClue.l0
  have m1_ := @ih0
  have m2_ := @ih1
  have m3_ := @impl_IsPuzzle.mono
  have m4_ := @impl_solutions.mono
  exact zM_
theorem impl_BestClue.mono : ∀ a0 k, LeO (impl_BestClue.f k a0) (impl_BestClue.f (k + 1) a0) := by
 intro a0 k
 obtain ⟨ih0, ih1⟩ := impl_BestClue.mono_l k
 unfold impl_BestClue.f
 have m1_ := @ih0
 have m2_ := @ih1
 have m3_ := @impl_IsPuzzle.mono
 have m4_ := @impl_solutions.mono
 exact zM_
theorem impl_BestClue.calls (k : Nat) (A0_0 : Option Addr) (c0_0 : Nat) (l0_0 : List (S46)) (r1 : Int) (r2 : Bool) (w : World) (hr0_0 : Kd.C k46 w A0_0 l0_0.length l0_0) (hc0_0 : l0_0.length ≤ c0_0) (h : impl_BestClue.f k l0_0 = some (r1, r2)) :
 Calls Tryz.prog 20 #[.agg #[.slice A0_0 l0_0.length c0_0]] w fun e w' => e = .returned (.tuple #[.int .i64 r1, .bool r2]) ∧ Below w.heap.size w w' := by
 have hu26 := Tryz.underlying26
 have hu46 := Tryz.underlying46
 have HR0_0 := Aside0.mk hr0_0
 have HC0_0 := Aside0.mk hc0_0
 clear hr0_0 hc0_0
 have HB := Aside0.mk (Below.refl w.heap.size w)
 unfold impl_BestClue.f at h
 have H := h
 clear h
 have HC2 := Aside0.mk H
 clear H
 go_enter Tryz.func20, Tryz.ntmps20
 go_upto_region 1 with (first | (refine bxg_ 1 #[.slice A0_0 l0_0.length c0_0] 26 ?_; intro gb393 hg w3 hbox hb; have BK393 := Aside0.mk (hbox); have GW393 : Aside0 (w.heap.size ≤ gb393) := bs_ hg zB_; have GE393 := GW393; replace HB := Aside0.mk (below_step zB_ hb); clear hb hbox hg))
 (try simp only [Act.put, List.setIfInBounds_toArray, List.set_cons_zero, List.set_cons_succ])
 go_cut [17] (fun v17 wc => ∃ (kq : Nat) (x17_1 : Bool), v17 = .bool x17_1 ∧ Aside0 (impl_BestClue.j0 kq x17_1 l0_0 = some (r1, r2)) ∧ Aside0 (kq ≤ k) ∧ Aside0 (wc.heap[gb393]? = some (.cells #[(.slice A0_0 l0_0.length c0_0)] 26 (0, 0))) ∧ Aside0 (Below w.heap.size w wc))
 case first =>
  have H := HC2.out
  clear HC2
  replace H := bd_ H; obtain ⟨t394, A4, H⟩ := H
  by_cases c5 : t394 = true
  · subst c5
    rw [if_pos rfl] at H
    have H' := Aside0.mk H
    clear H
    have hcz6_0 : w3.cell? ⟨gb393, 0, none⟩ = some (.slice A0_0 l0_0.length c0_0) := (blk_cell BK393.out 0).trans rfl
    have hfz6_0 := blk_frozen BK393.out 0
    go_wp2_with (first | ((with_reducible refine gc_ 26 rfl ?_); refine gL_ 10 Tryz.func26 #[.agg #[.slice A0_0 l0_0.length c0_0]] ?_; (with_reducible refine (impl_IsPuzzle.calls k _ _ l0_0 true _ ?side1 ?side2 A4.out).mono ?_); (case side1 => exact zc15_1_); (case side2 => exact HC0_0.out); rintro e w7 ⟨rfl, hb⟩; refine ⟨_, rfl, ?_⟩; replace BK393 := bb_ BK393 z13_4_ hb; replace HB := Aside0.mk (below_step z13_3_ hb); have hcz8_0 : w7.cell? ⟨gb393, 0, none⟩ = some (.slice A0_0 l0_0.length c0_0) := (blk_cell BK393.out 0).trans rfl; have hfz8_0 := blk_frozen BK393.out 0))
    go_meet
    case rel => exact ⟨_, (((l0_0.length : Int) == 0)), zV_, H', ⟨zs15_13⟩, ⟨b_ BK393.out⟩, ⟨zs15_14⟩⟩
  replace H := bf_ c5 H; obtain ⟨rfl, H⟩ := H
  have H' := Aside0.mk H
  clear H
  have hcz9_0 : w3.cell? ⟨gb393, 0, none⟩ = some (.slice A0_0 l0_0.length c0_0) := (blk_cell BK393.out 0).trans rfl
  have hfz9_0 := blk_frozen BK393.out 0
  go_wp2_with (first | ((with_reducible refine gc_ 26 rfl ?_); refine gL_ 10 Tryz.func26 #[.agg #[.slice A0_0 l0_0.length c0_0]] ?_; (with_reducible refine (impl_IsPuzzle.calls k _ _ l0_0 false _ ?side1 ?side2 A4.out).mono ?_); (case side1 => exact zc15_1_); (case side2 => exact HC0_0.out); rintro e w10 ⟨rfl, hb⟩; refine ⟨_, rfl, ?_⟩; replace BK393 := bb_ BK393 z13_4_ hb; replace HB := Aside0.mk (below_step z13_3_ hb)))
  go_meet
  case rel => exact ⟨_, (true), zV_, H', ⟨zs15_13⟩, ⟨b_ BK393.out⟩, ⟨zs15_14⟩⟩
 case rest =>
  clear HC2
  obtain ⟨kq, x17_1, rfl, HA, HJ1, BK393, HB⟩ := hcut
  cases kq with
  | zero => exact absurd HA.out (by simp [impl_BestClue.j0])
  | succ kj1 =>
   have H := HA.out
   clear HA
   simp only [impl_BestClue.j0] at H
   by_cases c11 : x17_1 = true
   · subst c11
     rw [if_pos rfl] at H
     simp only [Option.some.injEq, Prod.mk.injEq] at H
     obtain ⟨rfl, rfl⟩ := H
     go_wp2
     go_ret2
     exact ⟨zR_, zs15_14⟩
   replace H := bf_ c11 H; obtain ⟨rfl, H⟩ := H
   have H' := Aside0.mk H
   clear H
   have hcz12_0 : wc.cell? ⟨gb393, 0, none⟩ = some (.slice A0_0 l0_0.length c0_0) := (blk_cell BK393.out 0).trans rfl
   have hfz12_0 := blk_frozen BK393.out 0
   go_wp2
   go_loopg [4, 5, 21] kj1 (fun kq v4 v5 v21 w' => ∃ (x4_2 : Int) (x5_2 : Int) (x21_2 : Int), v4 = .int .i64 x4_2 ∧ v5 = .int .i64 x5_2 ∧ v21 = .int .i64 x21_2 ∧ Aside0 (impl_BestClue.l0 kq x4_2 x5_2 l0_0 (l0_0.length : Int) x21_2 = some (r1, r2)) ∧ Aside0 (kq ≤ kj1) ∧ Aside0 (w'.heap[gb393]? = some (.cells #[(.slice A0_0 l0_0.length c0_0)] 26 (0, 0))) ∧ Aside0 (Below w.heap.size w w'))
   case atStart => exact ⟨(0), ((-1)), (0), zV_, zV_, zV_, H', ⟨Nat.le_refl _⟩, ⟨b_ BK393.out⟩, ⟨zs15_14⟩⟩
   case round =>
    clear H'
    obtain ⟨x4_2, x5_2, x21_2, rfl, rfl, rfl, HA, HK2, BK393, HB⟩ := hrel
    cases gk with
    | zero => exact absurd HA.out (by simp [impl_BestClue.l0])
    | succ k2 =>
     have H := HA.out
     clear HA
     simp only [impl_BestClue.l0] at H
     by_cases c13 : x21_2 < (l0_0.length : Int)
     rotate_left
     · rw [if_neg c13] at H
       have c13b0 := decide_eq_false c13
       clear c13
       simp only [Option.some.injEq, Prod.mk.injEq] at H
       obtain ⟨rfl, rfl⟩ := H
       go_wp2
       go_ret2
       exact ⟨zR_, zs15_14⟩
     rw [if_pos c13] at H
     have c13b0 := decide_eq_true c13
     clear c13
     replace H := gd_ H; obtain ⟨c14, H⟩ := H
     have c14b0 : decide (0 ≤ x21_2) = true := decide_eq_true c14
     clear c14
     replace H := gd_ H; obtain ⟨c15, H⟩ := H
     have c15b0 : decide (x21_2 < (l0_0.length : Int)) = true := decide_eq_true c15
     clear c15
     obtain ⟨y397, hy397⟩ : ∃ y_ : List (S46), y_ = (([(⟨(rd_T46 l0_0 x21_2).f0, (rd_T46 l0_0 x21_2).f1, (rd_T46 l0_0 x21_2).f2⟩ : S46)] : List (S46))) := ⟨_, rfl⟩
     replace H : ((impl_solutions.f k2 y397).bind fun t400 => (if x5_2 < 0 then (impl_BestClue.l0 k2 x21_2 (t400.length : Int) l0_0 (l0_0.length : Int) (wrap64 (x21_2 + 1))) else (if (t400.length : Int) < x5_2 then (impl_BestClue.l0 k2 x21_2 (t400.length : Int) l0_0 (l0_0.length : Int) (wrap64 (x21_2 + 1))) else (impl_BestClue.l0 k2 x4_2 x5_2 l0_0 (l0_0.length : Int) (wrap64 (x21_2 + 1)))))) = some (r1, r2) := by first | (rw [hy397]; with_reducible exact H) | (have H2_ := (Option.bind_some _ _).symm.trans H; rw [hy397]; with_reducible exact H2_) | (have H2_ := (Option.bind_some _ _).symm.trans H; with_reducible exact H2_) | with_reducible exact H | (rw [hy397]; exact H) | exact H
     have Ny397 := Aside0.mk hy397
     clear hy397
     replace H := bd_ H; obtain ⟨t400, A16, H⟩ := H
     by_cases c17 : x5_2 < 0
     · rw [if_pos c17] at H
       have c17b0 := decide_eq_true c17
       clear c17
       have H' := Aside0.mk H
       clear H
       have p395 : 0 ≤ (x21_2 : Int) := of_decide_eq_true zS_
       have q395 : x21_2 < (l0_0.length : Int) := of_decide_eq_true zS_
       obtain ⟨ad395, e395, hx395_0, hx395_1, hx395_2⟩ := at_T46 HR0_0.out x21_2 p395 q395
       cases e395
       replace hx395_0 := (HB.out.cell (World.block_lt_of_cell? w _ hx395_0)).trans hx395_0
       replace hx395_1 := (HB.out.cell (World.block_lt_of_cell? w _ hx395_1)).trans hx395_1
       replace hx395_2 := (HB.out.cell (World.block_lt_of_cell? w _ hx395_2)).trans hx395_2
       replace p395 := eq_true p395
       replace q395 := eq_true q395
       go_wp2_with (first | (refine bxg_ 7 #[.int .i64 0, .int .i64 0, .int .i64 0] 46 ?_; intro gb396 hg w18 hbox hb; have BK396 := Aside0.mk (hbox); have GW396 : Aside0 (w.heap.size ≤ gb396) := bs_ hg z13_3_; have GE396 := GW396; replace HB := Aside0.mk (below_step z13_3_ hb); have NB393_396 := nl_ BK393 z13_4_ hg; have NB396_393 := ns_ NB393_396; replace BK393 := bb_ BK393 z13_4_ hb; clear hb hbox hg; have hnb19 := NB396_393.out; have hnc19 := NB393_396.out; have hcz20_0 : w18.cell? ⟨gb396, 0, none⟩ = some (.int .i64 0) := (blk_cell BK396.out 0).trans rfl; have hcz20_1 : w18.cell? ⟨gb396, 1, none⟩ = some (.int .i64 0) := (blk_cell BK396.out 1).trans rfl; have hcz20_2 : w18.cell? ⟨gb396, 2, none⟩ = some (.int .i64 0) := (blk_cell BK396.out 2).trans rfl; have hfz20_0 := blk_frozen BK396.out 0; have hfz20_1 := blk_frozen BK396.out 1; have hfz20_2 := blk_frozen BK396.out 2) | ((with_reducible refine gate_dst (N := 27) rfl ?_); (try (refine gate_guard (by rfl) ?_; dsimp only)); refine Kd.R_lit k46 _ 46 ?hg (N := 27) ?hd (xs := ([(⟨(rd_T46 l0_0 x21_2).f0, (rd_T46 l0_0 x21_2).f1, (rd_T46 l0_0 x21_2).f2⟩ : S46)] : List (S46))) (inner := [.int .i64 ((rd_T46 l0_0 x21_2).f0), .int .i64 ((rd_T46 l0_0 x21_2).f1), .int .i64 ((rd_T46 l0_0 x21_2).f2)]) (ok := fun _ => True) (okp := fun _ => True) ?hr ?hp (fun _ hk => hk) trivial (Below.refl _ _) (Nat.le_refl _) (by simp) ?_; (case hd => rfl); (case hg => rfl); (case hr => exact zc15_6_); (case hp => exact zc15_0_); intro v398 w21 ho22 hb hg_ hnew_; clear hg_ hnew_; (first | rw [← Ny397.out] at ho22 | (simp only [Int.reduceToNat] at ho22; rw [← Ny397.out] at ho22)); have HO399 := Aside0.mk (Kd.R_lower (Kd.R_newB ho22 (g := gb396) (o := .cells #[.int .i64 ((rd_T46 l0_0 x21_2).f0), .int .i64 ((rd_T46 l0_0 x21_2).f1), .int .i64 ((rd_T46 l0_0 x21_2).f2)] 46 (0, 0)) z13_0_) (below_size z13_1_)); replace BK393 := bb_ BK393 z13_6_ hb; replace BK396 := Aside0.mk (blk_below (g := gb396) (o := .cells #[.int .i64 ((rd_T46 l0_0 x21_2).f0), .int .i64 ((rd_T46 l0_0 x21_2).f1), .int .i64 ((rd_T46 l0_0 x21_2).f2)] 46 (0, 0)) z13_0_ hb); replace HB := Aside0.mk (below_step z13_1_ hb); clear hb ho22; obtain ⟨Ao23, co23, eo23⟩ := Kd.R_slice HO399.out; subst eo23) | ((with_reducible refine gc_ 38 rfl ?_); refine gL_ 28 Tryz.func38 #[.slice Ao23 y397.length co23] ?_; (with_reducible refine (impl_solutions.calls k2 _ _ y397 t400 _ ?side1 ?side2 A16.out).mono ?_); (case side1 => exact zc15_5_); (case side2 => exact (Kd.R_reads' HO399.out).2.1); rintro e w24 ⟨v401, rfl, ho0, hb⟩; refine ⟨_, rfl, ?_⟩; replace HO399 := Aside0.mk (Kd.R_below z13_14_ hb); have HO402 := Aside0.mk (Kd.R_lower ho0 (below_size z13_1_)); replace BK393 := bb_ BK393 z13_4_ hb; replace BK396 := bb_ BK396 z13_13_ hb; replace HB := Aside0.mk (below_step z13_1_ hb); obtain ⟨Ao25, co25, eo25⟩ := Kd.R_slice HO402.out; subst eo25))
       go_roundg k2
       case measure => have := HJ1.out; have := HK2.out; omega
       case rel => exact ⟨(x21_2), ((t400.length : Int)), (wrap64 (x21_2 + 1)), zV_, zV_, zV_, H', ⟨zs15_15⟩, ⟨b_ BK393.out⟩, ⟨zs15_16⟩⟩
     rw [if_neg c17] at H
     have c17b0 := decide_eq_false c17
     clear c17
     by_cases c26 : (t400.length : Int) < x5_2
     · rw [if_pos c26] at H
       have c26b0 := decide_eq_true c26
       clear c26
       have H' := Aside0.mk H
       clear H
       have p395 : 0 ≤ (x21_2 : Int) := of_decide_eq_true zS_
       have q395 : x21_2 < (l0_0.length : Int) := of_decide_eq_true zS_
       obtain ⟨ad395, e395, hx395_0, hx395_1, hx395_2⟩ := at_T46 HR0_0.out x21_2 p395 q395
       cases e395
       replace hx395_0 := (HB.out.cell (World.block_lt_of_cell? w _ hx395_0)).trans hx395_0
       replace hx395_1 := (HB.out.cell (World.block_lt_of_cell? w _ hx395_1)).trans hx395_1
       replace hx395_2 := (HB.out.cell (World.block_lt_of_cell? w _ hx395_2)).trans hx395_2
       replace p395 := eq_true p395
       replace q395 := eq_true q395
       go_wp2_with (first | (refine bxg_ 7 #[.int .i64 0, .int .i64 0, .int .i64 0] 46 ?_; intro gb396 hg w27 hbox hb; have BK396 := Aside0.mk (hbox); have GW396 : Aside0 (w.heap.size ≤ gb396) := bs_ hg z13_3_; have GE396 := GW396; replace HB := Aside0.mk (below_step z13_3_ hb); have NB393_396 := nl_ BK393 z13_4_ hg; have NB396_393 := ns_ NB393_396; replace BK393 := bb_ BK393 z13_4_ hb; clear hb hbox hg; have hnb28 := NB396_393.out; have hnc28 := NB393_396.out; have hcz29_0 : w27.cell? ⟨gb396, 0, none⟩ = some (.int .i64 0) := (blk_cell BK396.out 0).trans rfl; have hcz29_1 : w27.cell? ⟨gb396, 1, none⟩ = some (.int .i64 0) := (blk_cell BK396.out 1).trans rfl; have hcz29_2 : w27.cell? ⟨gb396, 2, none⟩ = some (.int .i64 0) := (blk_cell BK396.out 2).trans rfl; have hfz29_0 := blk_frozen BK396.out 0; have hfz29_1 := blk_frozen BK396.out 1; have hfz29_2 := blk_frozen BK396.out 2) | ((with_reducible refine gate_dst (N := 27) rfl ?_); (try (refine gate_guard (by rfl) ?_; dsimp only)); refine Kd.R_lit k46 _ 46 ?hg (N := 27) ?hd (xs := ([(⟨(rd_T46 l0_0 x21_2).f0, (rd_T46 l0_0 x21_2).f1, (rd_T46 l0_0 x21_2).f2⟩ : S46)] : List (S46))) (inner := [.int .i64 ((rd_T46 l0_0 x21_2).f0), .int .i64 ((rd_T46 l0_0 x21_2).f1), .int .i64 ((rd_T46 l0_0 x21_2).f2)]) (ok := fun _ => True) (okp := fun _ => True) ?hr ?hp (fun _ hk => hk) trivial (Below.refl _ _) (Nat.le_refl _) (by simp) ?_; (case hd => rfl); (case hg => rfl); (case hr => exact zc15_6_); (case hp => exact zc15_0_); intro v398 w30 ho31 hb hg_ hnew_; clear hg_ hnew_; (first | rw [← Ny397.out] at ho31 | (simp only [Int.reduceToNat] at ho31; rw [← Ny397.out] at ho31)); have HO399 := Aside0.mk (Kd.R_lower (Kd.R_newB ho31 (g := gb396) (o := .cells #[.int .i64 ((rd_T46 l0_0 x21_2).f0), .int .i64 ((rd_T46 l0_0 x21_2).f1), .int .i64 ((rd_T46 l0_0 x21_2).f2)] 46 (0, 0)) z13_0_) (below_size z13_1_)); replace BK393 := bb_ BK393 z13_6_ hb; replace BK396 := Aside0.mk (blk_below (g := gb396) (o := .cells #[.int .i64 ((rd_T46 l0_0 x21_2).f0), .int .i64 ((rd_T46 l0_0 x21_2).f1), .int .i64 ((rd_T46 l0_0 x21_2).f2)] 46 (0, 0)) z13_0_ hb); replace HB := Aside0.mk (below_step z13_1_ hb); clear hb ho31; obtain ⟨Ao32, co32, eo32⟩ := Kd.R_slice HO399.out; subst eo32) | ((with_reducible refine gc_ 38 rfl ?_); refine gL_ 28 Tryz.func38 #[.slice Ao32 y397.length co32] ?_; (with_reducible refine (impl_solutions.calls k2 _ _ y397 t400 _ ?side1 ?side2 A16.out).mono ?_); (case side1 => exact zc15_5_); (case side2 => exact (Kd.R_reads' HO399.out).2.1); rintro e w33 ⟨v401, rfl, ho0, hb⟩; refine ⟨_, rfl, ?_⟩; replace HO399 := Aside0.mk (Kd.R_below z13_14_ hb); have HO402 := Aside0.mk (Kd.R_lower ho0 (below_size z13_1_)); replace BK393 := bb_ BK393 z13_4_ hb; replace BK396 := bb_ BK396 z13_13_ hb; replace HB := Aside0.mk (below_step z13_1_ hb); obtain ⟨Ao34, co34, eo34⟩ := Kd.R_slice HO402.out; subst eo34))
       go_roundg k2
       case measure => have := HJ1.out; have := HK2.out; omega
       case rel => exact ⟨(x21_2), ((t400.length : Int)), (wrap64 (x21_2 + 1)), zV_, zV_, zV_, H', ⟨zs15_15⟩, ⟨b_ BK393.out⟩, ⟨zs15_16⟩⟩
     rw [if_neg c26] at H
     have c26b0 := decide_eq_false c26
     clear c26
     have H' := Aside0.mk H
     clear H
     have p395 : 0 ≤ (x21_2 : Int) := of_decide_eq_true zS_
     have q395 : x21_2 < (l0_0.length : Int) := of_decide_eq_true zS_
     obtain ⟨ad395, e395, hx395_0, hx395_1, hx395_2⟩ := at_T46 HR0_0.out x21_2 p395 q395
     cases e395
     replace hx395_0 := (HB.out.cell (World.block_lt_of_cell? w _ hx395_0)).trans hx395_0
     replace hx395_1 := (HB.out.cell (World.block_lt_of_cell? w _ hx395_1)).trans hx395_1
     replace hx395_2 := (HB.out.cell (World.block_lt_of_cell? w _ hx395_2)).trans hx395_2
     replace p395 := eq_true p395
     replace q395 := eq_true q395
     go_wp2_with (first | (refine bxg_ 7 #[.int .i64 0, .int .i64 0, .int .i64 0] 46 ?_; intro gb396 hg w35 hbox hb; have BK396 := Aside0.mk (hbox); have GW396 : Aside0 (w.heap.size ≤ gb396) := bs_ hg z13_3_; have GE396 := GW396; replace HB := Aside0.mk (below_step z13_3_ hb); have NB393_396 := nl_ BK393 z13_4_ hg; have NB396_393 := ns_ NB393_396; replace BK393 := bb_ BK393 z13_4_ hb; clear hb hbox hg; have hnb36 := NB396_393.out; have hnc36 := NB393_396.out; have hcz37_0 : w35.cell? ⟨gb396, 0, none⟩ = some (.int .i64 0) := (blk_cell BK396.out 0).trans rfl; have hcz37_1 : w35.cell? ⟨gb396, 1, none⟩ = some (.int .i64 0) := (blk_cell BK396.out 1).trans rfl; have hcz37_2 : w35.cell? ⟨gb396, 2, none⟩ = some (.int .i64 0) := (blk_cell BK396.out 2).trans rfl; have hfz37_0 := blk_frozen BK396.out 0; have hfz37_1 := blk_frozen BK396.out 1; have hfz37_2 := blk_frozen BK396.out 2) | ((with_reducible refine gate_dst (N := 27) rfl ?_); (try (refine gate_guard (by rfl) ?_; dsimp only)); refine Kd.R_lit k46 _ 46 ?hg (N := 27) ?hd (xs := ([(⟨(rd_T46 l0_0 x21_2).f0, (rd_T46 l0_0 x21_2).f1, (rd_T46 l0_0 x21_2).f2⟩ : S46)] : List (S46))) (inner := [.int .i64 ((rd_T46 l0_0 x21_2).f0), .int .i64 ((rd_T46 l0_0 x21_2).f1), .int .i64 ((rd_T46 l0_0 x21_2).f2)]) (ok := fun _ => True) (okp := fun _ => True) ?hr ?hp (fun _ hk => hk) trivial (Below.refl _ _) (Nat.le_refl _) (by simp) ?_; (case hd => rfl); (case hg => rfl); (case hr => exact zc15_6_); (case hp => exact zc15_0_); intro v398 w38 ho39 hb hg_ hnew_; clear hg_ hnew_; (first | rw [← Ny397.out] at ho39 | (simp only [Int.reduceToNat] at ho39; rw [← Ny397.out] at ho39)); have HO399 := Aside0.mk (Kd.R_lower (Kd.R_newB ho39 (g := gb396) (o := .cells #[.int .i64 ((rd_T46 l0_0 x21_2).f0), .int .i64 ((rd_T46 l0_0 x21_2).f1), .int .i64 ((rd_T46 l0_0 x21_2).f2)] 46 (0, 0)) z13_0_) (below_size z13_1_)); replace BK393 := bb_ BK393 z13_6_ hb; replace BK396 := Aside0.mk (blk_below (g := gb396) (o := .cells #[.int .i64 ((rd_T46 l0_0 x21_2).f0), .int .i64 ((rd_T46 l0_0 x21_2).f1), .int .i64 ((rd_T46 l0_0 x21_2).f2)] 46 (0, 0)) z13_0_ hb); replace HB := Aside0.mk (below_step z13_1_ hb); clear hb ho39; obtain ⟨Ao40, co40, eo40⟩ := Kd.R_slice HO399.out; subst eo40) | ((with_reducible refine gc_ 38 rfl ?_); refine gL_ 28 Tryz.func38 #[.slice Ao40 y397.length co40] ?_; (with_reducible refine (impl_solutions.calls k2 _ _ y397 t400 _ ?side1 ?side2 A16.out).mono ?_); (case side1 => exact zc15_5_); (case side2 => exact (Kd.R_reads' HO399.out).2.1); rintro e w41 ⟨v401, rfl, ho0, hb⟩; refine ⟨_, rfl, ?_⟩; replace HO399 := Aside0.mk (Kd.R_below z13_14_ hb); have HO402 := Aside0.mk (Kd.R_lower ho0 (below_size z13_1_)); replace BK393 := bb_ BK393 z13_4_ hb; replace BK396 := bb_ BK396 z13_13_ hb; replace HB := Aside0.mk (below_step z13_1_ hb); obtain ⟨Ao42, co42, eo42⟩ := Kd.R_slice HO402.out; subst eo42))
     go_roundg k2
     case measure => have := HJ1.out; have := HK2.out; omega
     case rel => exact ⟨(x4_2), (x5_2), (wrap64 (x21_2 + 1)), zV_, zV_, zV_, H', ⟨zs15_15⟩, ⟨b_ BK393.out⟩, ⟨zs15_16⟩⟩

/-! ### spec_BestClue: function 21 -/
mutual
def spec_BestClue.j0 : Nat → Bool → List (S46) → Option (Int × Bool)
 | 0, _, _ => none
 | k + 1, x16, x404000 => if x16 = true then (some (0, false)) else (spec_BestClue.l0 k 0 0 (x404000.length : Int) 0 x404000)
def spec_BestClue.l0 : Nat → Int → Int → Int → Int → List (S46) → Option (Int × Bool)
 | 0, _, _, _, _, _ => none
 | k + 1, x4, x5, x19, x20, x404000 => if x20 < x19 then (if 0 ≤ x20 then (if x20 ≤ (wrap64 (x20 + 1)) then (if (wrap64 (x20 + 1)) ≤ (x404000.length : Int) then ((spec_pzAll.f k ((x404000.take ((wrap64 (x20 + 1)) : Int).toNat).drop (x20 : Int).toNat)).bind fun t409 => (if x20 = 0 then (spec_BestClue.l0 k x20 (t409.length : Int) x19 (wrap64 (x20 + 1)) x404000) else (if (t409.length : Int) < x5 then (spec_BestClue.l0 k x20 (t409.length : Int) x19 (wrap64 (x20 + 1)) x404000) else (spec_BestClue.l0 k x4 x5 x19 (wrap64 (x20 + 1)) x404000)))) else (none)) else (none)) else (none)) else (some (x4, true))
end
def spec_BestClue.f (k : Nat) (l0_0 : List (S46)) : Option (Int × Bool) := (spec_pzGood.f k l0_0).bind fun t404 => (if t404 = true then (spec_BestClue.j0 k ((l0_0.length : Int) == 0) l0_0) else (spec_BestClue.j0 k true l0_0))
theorem spec_BestClue.mono_l : ∀ k, (∀ y0 y1, LeO (spec_BestClue.j0 k y0 y1) (spec_BestClue.j0 (k + 1) y0 y1)) ∧ (∀ y0 y1 y2 y3 y4, LeO (spec_BestClue.l0 k y0 y1 y2 y3 y4) (spec_BestClue.l0 (k + 1) y0 y1 y2 y3 y4))
 | 0 => ⟨fun _ _ r h => by simp [spec_BestClue.j0] at h, fun _ _ _ _ _ r h => by simp [spec_BestClue.l0] at h⟩
 | k + 1 => by
  obtain ⟨ih0, ih1⟩ := spec_BestClue.mono_l k
  refine ⟨?_, ?_⟩
  · intro y0 y1
    unfold spec_BestClue.j0
    have m1_ := @ih0
    have m2_ := @ih1
    have m3_ := @spec_pzAll.mono
    have m4_ := @spec_pzGood.mono
    exact zM_
  intro y0 y1 y2 y3 y4
  unfold spec_BestClue.l0
  have m1_ := @ih0
  have m2_ := @ih1
  have m3_ := @spec_pzAll.mono
  have m4_ := @spec_pzGood.mono
  exact zM_
theorem spec_BestClue.mono : ∀ a0 k, LeO (spec_BestClue.f k a0) (spec_BestClue.f (k + 1) a0) := by
 intro a0 k
 obtain ⟨ih0, ih1⟩ := spec_BestClue.mono_l k
 unfold spec_BestClue.f
 have m1_ := @ih0
 have m2_ := @ih1
 have m3_ := @spec_pzAll.mono
 have m4_ := @spec_pzGood.mono
 exact zM_
theorem spec_BestClue.calls (k : Nat) (A0_0 : Option Addr) (c0_0 : Nat) (l0_0 : List (S46)) (r1 : Int) (r2 : Bool) (w : World) (hr0_0 : Kd.C k46 w A0_0 l0_0.length l0_0) (hc0_0 : l0_0.length ≤ c0_0) (h : spec_BestClue.f k l0_0 = some (r1, r2)) :
 Calls Tryz.prog 21 #[.agg #[.slice A0_0 l0_0.length c0_0]] w fun e w' => e = .returned (.tuple #[.int .i64 r1, .bool r2]) ∧ Below w.heap.size w w' := by
 have hu26 := Tryz.underlying26
 have HR0_0 := Aside0.mk hr0_0
 have HC0_0 := Aside0.mk hc0_0
 clear hr0_0 hc0_0
 have HB := Aside0.mk (Below.refl w.heap.size w)
 unfold spec_BestClue.f at h
 have H := h
 clear h
 have HC2 := Aside0.mk H
 clear H
 go_enter Tryz.func21, Tryz.ntmps21
 go_upto_region 1 with (first | (refine bxg_ 1 #[.slice A0_0 l0_0.length c0_0] 26 ?_; intro gb403 hg w3 hbox hb; have BK403 := Aside0.mk (hbox); have GW403 : Aside0 (w.heap.size ≤ gb403) := bs_ hg zB_; have GE403 := GW403; replace HB := Aside0.mk (below_step zB_ hb); clear hb hbox hg))
 (try simp only [Act.put, List.setIfInBounds_toArray, List.set_cons_zero, List.set_cons_succ])
 go_cut [16] (fun v16 wc => ∃ (kq : Nat) (x16_1 : Bool), v16 = .bool x16_1 ∧ Aside0 (spec_BestClue.j0 kq x16_1 l0_0 = some (r1, r2)) ∧ Aside0 (kq ≤ k) ∧ Aside0 (wc.heap[gb403]? = some (.cells #[(.slice A0_0 l0_0.length c0_0)] 26 (0, 0))) ∧ Aside0 (Below w.heap.size w wc))
 case first =>
  have H := HC2.out
  clear HC2
  replace H := bd_ H; obtain ⟨t404, A4, H⟩ := H
  by_cases c5 : t404 = true
  · subst c5
    rw [if_pos rfl] at H
    have H' := Aside0.mk H
    clear H
    have hcz6_0 : w3.cell? ⟨gb403, 0, none⟩ = some (.slice A0_0 l0_0.length c0_0) := (blk_cell BK403.out 0).trans rfl
    have hfz6_0 := blk_frozen BK403.out 0
    go_wp2_with (first | ((with_reducible refine gc_ 39 rfl ?_); refine gL_ 9 Tryz.func39 #[.agg #[.slice A0_0 l0_0.length c0_0]] ?_; (with_reducible refine (spec_pzGood.calls k _ _ l0_0 true _ ?side1 ?side2 A4.out).mono ?_); (case side1 => exact zc15_1_); (case side2 => exact HC0_0.out); rintro e w7 ⟨rfl, hb⟩; refine ⟨_, rfl, ?_⟩; replace BK403 := bb_ BK403 z13_11_ hb; replace HB := Aside0.mk (below_step z13_8_ hb); have hcz8_0 : w7.cell? ⟨gb403, 0, none⟩ = some (.slice A0_0 l0_0.length c0_0) := (blk_cell BK403.out 0).trans rfl; have hfz8_0 := blk_frozen BK403.out 0))
    go_meet
    case rel => exact ⟨_, (((l0_0.length : Int) == 0)), zV_, H', ⟨zs15_13⟩, ⟨b_ BK403.out⟩, ⟨zs15_17⟩⟩
  replace H := bf_ c5 H; obtain ⟨rfl, H⟩ := H
  have H' := Aside0.mk H
  clear H
  have hcz9_0 : w3.cell? ⟨gb403, 0, none⟩ = some (.slice A0_0 l0_0.length c0_0) := (blk_cell BK403.out 0).trans rfl
  have hfz9_0 := blk_frozen BK403.out 0
  go_wp2_with (first | ((with_reducible refine gc_ 39 rfl ?_); refine gL_ 9 Tryz.func39 #[.agg #[.slice A0_0 l0_0.length c0_0]] ?_; (with_reducible refine (spec_pzGood.calls k _ _ l0_0 false _ ?side1 ?side2 A4.out).mono ?_); (case side1 => exact zc15_1_); (case side2 => exact HC0_0.out); rintro e w10 ⟨rfl, hb⟩; refine ⟨_, rfl, ?_⟩; replace BK403 := bb_ BK403 z13_11_ hb; replace HB := Aside0.mk (below_step z13_8_ hb)))
  go_meet
  case rel => exact ⟨_, (true), zV_, H', ⟨zs15_13⟩, ⟨b_ BK403.out⟩, ⟨zs15_17⟩⟩
 case rest =>
  clear HC2
  obtain ⟨kq, x16_1, rfl, HA, HJ1, BK403, HB⟩ := hcut
  cases kq with
  | zero => exact absurd HA.out (by simp [spec_BestClue.j0])
  | succ kj1 =>
   have H := HA.out
   clear HA
   simp only [spec_BestClue.j0] at H
   by_cases c11 : x16_1 = true
   · subst c11
     rw [if_pos rfl] at H
     simp only [Option.some.injEq, Prod.mk.injEq] at H
     obtain ⟨rfl, rfl⟩ := H
     go_wp2
     go_ret2
     exact ⟨zR_, zs15_17⟩
   replace H := bf_ c11 H; obtain ⟨rfl, H⟩ := H
   have H' := Aside0.mk H
   clear H
   have hcz12_0 : wc.cell? ⟨gb403, 0, none⟩ = some (.slice A0_0 l0_0.length c0_0) := (blk_cell BK403.out 0).trans rfl
   have hfz12_0 := blk_frozen BK403.out 0
   go_wp2
   go_loopg [4, 5, 20] kj1 (fun kq v4 v5 v20 w' => ∃ (x4_2 : Int) (x5_2 : Int) (x20_2 : Int), v4 = .int .i64 x4_2 ∧ v5 = .int .i64 x5_2 ∧ v20 = .int .i64 x20_2 ∧ Aside0 (spec_BestClue.l0 kq x4_2 x5_2 (l0_0.length : Int) x20_2 l0_0 = some (r1, r2)) ∧ Aside0 (kq ≤ kj1) ∧ Aside0 (w'.heap[gb403]? = some (.cells #[(.slice A0_0 l0_0.length c0_0)] 26 (0, 0))) ∧ Aside0 (Below w.heap.size w w'))
   case atStart => exact ⟨(0), (0), (0), zV_, zV_, zV_, H', ⟨Nat.le_refl _⟩, ⟨b_ BK403.out⟩, ⟨zs15_17⟩⟩
   case round =>
    clear H'
    obtain ⟨x4_2, x5_2, x20_2, rfl, rfl, rfl, HA, HK2, BK403, HB⟩ := hrel
    cases gk with
    | zero => exact absurd HA.out (by simp [spec_BestClue.l0])
    | succ k2 =>
     have H := HA.out
     clear HA
     simp only [spec_BestClue.l0] at H
     by_cases c13 : x20_2 < (l0_0.length : Int)
     rotate_left
     · rw [if_neg c13] at H
       have c13b0 := decide_eq_false c13
       clear c13
       simp only [Option.some.injEq, Prod.mk.injEq] at H
       obtain ⟨rfl, rfl⟩ := H
       go_wp2
       go_ret2
       exact ⟨zR_, zs15_17⟩
     rw [if_pos c13] at H
     have c13b0 := decide_eq_true c13
     clear c13
     replace H := gd_ H; obtain ⟨c14, H⟩ := H
     have c14b0 := eq_true c14
     have c14b1 : decide (0 ≤ x20_2) = true := decide_eq_true c14
     clear c14
     replace H := gd_ H; obtain ⟨c15, H⟩ := H
     have c15b0 := eq_true c15
     have c15b1 : decide (x20_2 ≤ (wrap64 (x20_2 + 1))) = true := decide_eq_true c15
     replace H := gd_ H; obtain ⟨c16, H⟩ := H
     have c16b0 := eq_true c16
     have c16b1 : decide ((wrap64 (x20_2 + 1)) ≤ (l0_0.length : Int)) = true := decide_eq_true c16
     obtain ⟨y405, hy405⟩ : ∃ y_ : List (S46), y_ = ((l0_0.take ((wrap64 (x20_2 + 1)) : Int).toNat).drop (x20_2 : Int).toNat) := ⟨_, rfl⟩
     replace H : ((spec_pzAll.f k2 y405).bind fun t409 => (if x20_2 = 0 then (spec_BestClue.l0 k2 x20_2 (t409.length : Int) (l0_0.length : Int) (wrap64 (x20_2 + 1)) l0_0) else (if (t409.length : Int) < x5_2 then (spec_BestClue.l0 k2 x20_2 (t409.length : Int) (l0_0.length : Int) (wrap64 (x20_2 + 1)) l0_0) else (spec_BestClue.l0 k2 x4_2 x5_2 (l0_0.length : Int) (wrap64 (x20_2 + 1)) l0_0)))) = some (r1, r2) := by first | (rw [hy405]; with_reducible exact H) | (have H2_ := (Option.bind_some _ _).symm.trans H; rw [hy405]; with_reducible exact H2_) | (have H2_ := (Option.bind_some _ _).symm.trans H; with_reducible exact H2_) | with_reducible exact H | (rw [hy405]; exact H) | exact H
     have Ny405 := Aside0.mk hy405
     clear hy405
     replace H := bd_ H; obtain ⟨t409, A17, H⟩ := H
     by_cases c18 : x20_2 = 0
     · obtain ⟨H, c18b0, c18b1⟩ := ep_ c18 H
       clear c18
       have H' := Aside0.mk H
       clear H
       have hcz19_0 : wr.cell? ⟨gb403, 0, none⟩ = some (.slice A0_0 l0_0.length c0_0) := (blk_cell BK403.out 0).trans rfl
       have hfz19_0 := blk_frozen BK403.out 0
       have q20 : ((wrap64 (x20_2 + 1)) : Int) ≤ ((l0_0.length : Int) : Int) := of_decide_eq_true zS_
       obtain ⟨i020, hi020, _, hsz20, _⟩ := info_parts info46
       have hroom20 : l0_0.length ≤ c0_0 := HC0_0.out
       have hC20 : Kd.C k46 _ A0_0 l0_0.length l0_0 := HR0_0.out
       have ql20 : (x20_2 : Int) ≤ ((wrap64 (x20_2 + 1)) : Int) := of_decide_eq_true zS_
       have q020 : (0 : Int) ≤ (x20_2 : Int) := of_decide_eq_true zS_
       have hcut20 := cut_mid (P := Tryz.prog) 24 46 .i64 .i64 Tryz.underlying24 hi020 3 hsz20 A0_0 l0_0.length c0_0 x20_2 (wrap64 (x20_2 + 1)) q020 ql20 q20 hroom20
       have hr20 := Kd.C_mid (lo := (x20_2 : Int).toNat) (hi := ((wrap64 (x20_2 + 1)) : Int).toNat) (c := c0_0) hC20 (by omega) (by omega) hroom20
       obtain ⟨A20, hA20⟩ : ∃ A1, A1 = (if c0_0 = (x20_2 : Int).toNat then A0_0 else (A0_0 : Option Addr).map (·.add ((x20_2 : Int).toNat * 3))) := ⟨_, rfl⟩
       obtain ⟨c20, hc20⟩ : ∃ c1, c1 = c0_0 - (x20_2 : Int).toNat := ⟨_, rfl⟩
       have hy20 : y405.length = ((wrap64 (x20_2 + 1)) : Int).toNat - (x20_2 : Int).toNat := zq15_3_
       rw [show ((l0_0).take ((wrap64 (x20_2 + 1)) : Int).toNat).drop (x20_2 : Int).toNat = y405 from Ny405.out.symm] at hr20
       replace hr20 : Kd.C k46 _ A20 y405.length y405 := (by rw [hA20]; exact hr20)
       rw [← hy20, ← hA20, ← hc20] at hcut20
       have HR408 := Aside0.mk hr20
       have HC408 := Aside0.mk (show y405.length ≤ c20 from by rw [hy20, hc20]; exact Nat.sub_le_sub_right (Nat.le_trans (by omega) hroom20) _)
       clear hr20 hC20 hroom20 hi020 hsz20 hc20
       have KY20 := Aside0.mk hy20
       have KA20 := Aside0.mk hA20
       clear hy20 hA20
       replace q20 := eq_true q20
       go_wp2_with (first | ((with_reducible refine gc_ 40 rfl ?_); refine gL_ 29 Tryz.func40 #[.slice A20 y405.length c20] ?_; (with_reducible refine (spec_pzAll.calls k2 _ _ y405 t409 _ ?side1 ?side2 A17.out).mono ?_); (case side1 => exact zc15_2_); (case side2 => exact HC408.out); rintro e w21 ⟨v410, rfl, ho0, hb⟩; refine ⟨_, rfl, ?_⟩; have HO411 := Aside0.mk (Kd.R_lower ho0 (below_size z13_8_)); replace BK403 := bb_ BK403 z13_11_ hb; replace HB := Aside0.mk (below_step z13_8_ hb); obtain ⟨Ao22, co22, eo22⟩ := Kd.R_slice HO411.out; subst eo22))
       go_roundg k2
       case measure => have := HJ1.out; have := HK2.out; omega
       case rel => exact ⟨(x20_2), ((t409.length : Int)), (wrap64 (x20_2 + 1)), zV_, zV_, zV_, H', ⟨zs15_15⟩, ⟨b_ BK403.out⟩, ⟨zs15_17⟩⟩
     obtain ⟨H, c18b0, c18b1⟩ := en_ c18 H
     by_cases c23 : (t409.length : Int) < x5_2
     · rw [if_pos c23] at H
       have c23b0 := decide_eq_true c23
       clear c23
       have H' := Aside0.mk H
       clear H
       have hcz24_0 : wr.cell? ⟨gb403, 0, none⟩ = some (.slice A0_0 l0_0.length c0_0) := (blk_cell BK403.out 0).trans rfl
       have hfz24_0 := blk_frozen BK403.out 0
       have q25 : ((wrap64 (x20_2 + 1)) : Int) ≤ ((l0_0.length : Int) : Int) := of_decide_eq_true zS_
       obtain ⟨i025, hi025, _, hsz25, _⟩ := info_parts info46
       have hroom25 : l0_0.length ≤ c0_0 := HC0_0.out
       have hC25 : Kd.C k46 _ A0_0 l0_0.length l0_0 := HR0_0.out
       have ql25 : (x20_2 : Int) ≤ ((wrap64 (x20_2 + 1)) : Int) := of_decide_eq_true zS_
       have q025 : (0 : Int) ≤ (x20_2 : Int) := of_decide_eq_true zS_
       have hcut25 := cut_mid (P := Tryz.prog) 24 46 .i64 .i64 Tryz.underlying24 hi025 3 hsz25 A0_0 l0_0.length c0_0 x20_2 (wrap64 (x20_2 + 1)) q025 ql25 q25 hroom25
       have hr25 := Kd.C_mid (lo := (x20_2 : Int).toNat) (hi := ((wrap64 (x20_2 + 1)) : Int).toNat) (c := c0_0) hC25 (by omega) (by omega) hroom25
       obtain ⟨A25, hA25⟩ : ∃ A1, A1 = (if c0_0 = (x20_2 : Int).toNat then A0_0 else (A0_0 : Option Addr).map (·.add ((x20_2 : Int).toNat * 3))) := ⟨_, rfl⟩
       obtain ⟨c25, hc25⟩ : ∃ c1, c1 = c0_0 - (x20_2 : Int).toNat := ⟨_, rfl⟩
       have hy25 : y405.length = ((wrap64 (x20_2 + 1)) : Int).toNat - (x20_2 : Int).toNat := zq15_3_
       rw [show ((l0_0).take ((wrap64 (x20_2 + 1)) : Int).toNat).drop (x20_2 : Int).toNat = y405 from Ny405.out.symm] at hr25
       replace hr25 : Kd.C k46 _ A25 y405.length y405 := (by rw [hA25]; exact hr25)
       rw [← hy25, ← hA25, ← hc25] at hcut25
       have HR408 := Aside0.mk hr25
       have HC408 := Aside0.mk (show y405.length ≤ c25 from by rw [hy25, hc25]; exact Nat.sub_le_sub_right (Nat.le_trans (by omega) hroom25) _)
       clear hr25 hC25 hroom25 hi025 hsz25 hc25
       have KY25 := Aside0.mk hy25
       have KA25 := Aside0.mk hA25
       clear hy25 hA25
       replace q25 := eq_true q25
       go_wp2_with (first | ((with_reducible refine gc_ 40 rfl ?_); refine gL_ 29 Tryz.func40 #[.slice A25 y405.length c25] ?_; (with_reducible refine (spec_pzAll.calls k2 _ _ y405 t409 _ ?side1 ?side2 A17.out).mono ?_); (case side1 => exact zc15_2_); (case side2 => exact HC408.out); rintro e w26 ⟨v410, rfl, ho0, hb⟩; refine ⟨_, rfl, ?_⟩; have HO411 := Aside0.mk (Kd.R_lower ho0 (below_size z13_8_)); replace BK403 := bb_ BK403 z13_11_ hb; replace HB := Aside0.mk (below_step z13_8_ hb); obtain ⟨Ao27, co27, eo27⟩ := Kd.R_slice HO411.out; subst eo27))
       go_roundg k2
       case measure => have := HJ1.out; have := HK2.out; omega
       case rel => exact ⟨(x20_2), ((t409.length : Int)), (wrap64 (x20_2 + 1)), zV_, zV_, zV_, H', ⟨zs15_15⟩, ⟨b_ BK403.out⟩, ⟨zs15_17⟩⟩
     rw [if_neg c23] at H
     have c23b0 := decide_eq_false c23
     clear c23
     have H' := Aside0.mk H
     clear H
     have hcz28_0 : wr.cell? ⟨gb403, 0, none⟩ = some (.slice A0_0 l0_0.length c0_0) := (blk_cell BK403.out 0).trans rfl
     have hfz28_0 := blk_frozen BK403.out 0
     have q29 : ((wrap64 (x20_2 + 1)) : Int) ≤ ((l0_0.length : Int) : Int) := of_decide_eq_true zS_
     obtain ⟨i029, hi029, _, hsz29, _⟩ := info_parts info46
     have hroom29 : l0_0.length ≤ c0_0 := HC0_0.out
     have hC29 : Kd.C k46 _ A0_0 l0_0.length l0_0 := HR0_0.out
     have ql29 : (x20_2 : Int) ≤ ((wrap64 (x20_2 + 1)) : Int) := of_decide_eq_true zS_
     have q029 : (0 : Int) ≤ (x20_2 : Int) := of_decide_eq_true zS_
     have hcut29 := cut_mid (P := Tryz.prog) 24 46 .i64 .i64 Tryz.underlying24 hi029 3 hsz29 A0_0 l0_0.length c0_0 x20_2 (wrap64 (x20_2 + 1)) q029 ql29 q29 hroom29
     have hr29 := Kd.C_mid (lo := (x20_2 : Int).toNat) (hi := ((wrap64 (x20_2 + 1)) : Int).toNat) (c := c0_0) hC29 (by omega) (by omega) hroom29
     obtain ⟨A29, hA29⟩ : ∃ A1, A1 = (if c0_0 = (x20_2 : Int).toNat then A0_0 else (A0_0 : Option Addr).map (·.add ((x20_2 : Int).toNat * 3))) := ⟨_, rfl⟩
     obtain ⟨c29, hc29⟩ : ∃ c1, c1 = c0_0 - (x20_2 : Int).toNat := ⟨_, rfl⟩
     have hy29 : y405.length = ((wrap64 (x20_2 + 1)) : Int).toNat - (x20_2 : Int).toNat := zq15_3_
     rw [show ((l0_0).take ((wrap64 (x20_2 + 1)) : Int).toNat).drop (x20_2 : Int).toNat = y405 from Ny405.out.symm] at hr29
     replace hr29 : Kd.C k46 _ A29 y405.length y405 := (by rw [hA29]; exact hr29)
     rw [← hy29, ← hA29, ← hc29] at hcut29
     have HR408 := Aside0.mk hr29
     have HC408 := Aside0.mk (show y405.length ≤ c29 from by rw [hy29, hc29]; exact Nat.sub_le_sub_right (Nat.le_trans (by omega) hroom29) _)
     clear hr29 hC29 hroom29 hi029 hsz29 hc29
     have KY29 := Aside0.mk hy29
     have KA29 := Aside0.mk hA29
     clear hy29 hA29
     replace q29 := eq_true q29
     go_wp2_with (first | ((with_reducible refine gc_ 40 rfl ?_); refine gL_ 29 Tryz.func40 #[.slice A29 y405.length c29] ?_; (with_reducible refine (spec_pzAll.calls k2 _ _ y405 t409 _ ?side1 ?side2 A17.out).mono ?_); (case side1 => exact zc15_2_); (case side2 => exact HC408.out); rintro e w30 ⟨v410, rfl, ho0, hb⟩; refine ⟨_, rfl, ?_⟩; have HO411 := Aside0.mk (Kd.R_lower ho0 (below_size z13_8_)); replace BK403 := bb_ BK403 z13_11_ hb; replace HB := Aside0.mk (below_step z13_8_ hb); obtain ⟨Ao31, co31, eo31⟩ := Kd.R_slice HO411.out; subst eo31))
     go_roundg k2
     case measure => have := HJ1.out; have := HK2.out; omega
     case rel => exact ⟨(x4_2), (x5_2), (wrap64 (x20_2 + 1)), zV_, zV_, zV_, H', ⟨zs15_15⟩, ⟨b_ BK403.out⟩, ⟨zs15_17⟩⟩

/-! ### strings_Join: function 66 -/
def strings_Join.f (l0 : List ByteArray) (a1 : ByteArray) : Option ByteArray := if l0.length ≤ 140737488355328 then (if (Lib.join (l0.map (·.data.toList)) a1.data.toList).length ≤ 140737488355328 then some ⟨(Lib.join (l0.map (·.data.toList)) a1.data.toList).toArray⟩ else none) else none
theorem strings_Join.calls (A0 : Option Addr) (c0 : Nat) (l0 : List ByteArray) (a1 : ByteArray) (r : ByteArray) (w : World) (hr0 : Kd.C Kd.string w A0 l0.length l0) (hc0 : l0.length ≤ c0) (h : strings_Join.f l0 a1 = some r) :
 Calls Tryz.prog 66 #[.slice A0 l0.length c0, .string a1] w fun e w' => e = .returned (.string r) ∧ Below w.heap.size w w' := by
 unfold strings_Join.f at h
 by_cases h0 : l0.length ≤ 140737488355328
 rotate_left
 · exact none_ (if_neg h0) h
 rw [if_pos h0] at h
 by_cases h1 : (Lib.join (l0.map (·.data.toList)) a1.data.toList).length ≤ 140737488355328
 rotate_left
 · exact none_ (if_neg h1) h
 rw [if_pos h1] at h
 obtain rfl := Option.some.inj h
 by_cases hp : 0 < l0.length
 rotate_left
 · have e : l0 = [] := List.eq_nil_of_length_eq_zero (by omega)
   subst e
   refine (Shelf.Join_none A0 c0 a1 w).mono ?_
   rintro e w' ⟨rfl, rfl⟩
   exact ⟨rfl, Below.refl _ _⟩
 obtain ⟨ad, rfl, hx⟩ := Kd.at_string hr0 0 (Int.le_refl 0) (by omega)
 have hsp : ad.spot = none := by
  simp only [Int.toNat_zero, show ad.add 0 = ad from rfl] at hx
  unfold World.cell? at hx
  split at hx
  · split at hx
    · cases hx
    cases hs : ad.spot with
    | none => rfl
    | some x => rename_i hn; simp [hs] at hn
  cases hx
 obtain ⟨b, o, sp⟩ := ad
 dsimp only at hsp
 subst hsp
 have hlt := World.block_lt_of_cell? w _ hx
 refine Shelf.Join b o c0 l0 a1 w (fun j x hj => ?_) (by simpa [Addr.add] using hlt) h0 hc0 h1
 have hjl : j < l0.length := by
  rcases Nat.lt_or_ge j l0.length with z | z
  · exact z
  rw [List.getElem?_eq_none z] at hj; cases hj
 obtain ⟨ad2, e2, hx2⟩ := Kd.at_string hr0 (j : Int) (by omega) (by omega)
 cases e2
 have e3 : rdOf ByteArray.empty l0 (j : Int) = x := by
  unfold rdOf
  rw [Int.toNat_natCast, List.getD_eq_getElem?_getD, hj]; rfl
 rw [e3, Int.toNat_natCast] at hx2
 have e4 : (⟨b, o, none⟩ : Addr).add j = ⟨b, o + j, none⟩ := by unfold Addr.add; split <;> simp_all
 rw [e4] at hx2
 exact hx2

theorem z14_1_ {p : Prop} (h : p := by repeat (first | (with_reducible first | exact HB.out | apply below_alloc | apply pw_below_drewN | apply below_drew1 | refine below_set ?_ GE412.out) | exact HB.out)) : p := h
theorem z14_2_ {p : Prop} (h : p := by (try simp only [List.map_toArray, List.map_cons, List.map_nil]); first | done | rfl | (simp only [List.length_drop, List.length_take]; rfl)) : p := h
theorem z14_3_ {p : Prop} (h : p := by exact b_ BK412.out) : p := h
theorem z14_4_ {p : Prop} (h : p := by repeat (first | (with_reducible first | exact HB.out | apply below_alloc | apply pw_below_drewN | apply below_drew1 | refine below_set ?_ GE425.out) | exact HB.out)) : p := h
theorem z14_5_ {p : Prop} (h : p := by exact b_ BK425.out) : p := h
theorem z14_6_ {p : Prop} (h : p := by exact rr_ HO_3.out) : p := h

/-! ### impl_puzzleText: function 44 -/
def impl_puzzleText.l0 : Nat → List ByteArray → List (S46) → Int → Int → Option (ByteArray)
 | 0, _, _, _, _ => none
 | k + 1, x3, x8, x9, x10 => if x10 < x9 then (if 0 ≤ x10 then (if x10 < (x8.length : Int) then ((strconv_Itoa.f ((rd_T46 x8 x10).f0)).bind fun t418 => (if t418.size + 1 ≤ 9223372036854775807 then ((strconv_Itoa.f ((rd_T46 x8 x10).f1)).bind fun t419 => (if (t418 ++ (⟨#[46]⟩ : ByteArray)).size + t419.size ≤ 9223372036854775807 then (if ((t418 ++ (⟨#[46]⟩ : ByteArray)) ++ t419).size + 1 ≤ 9223372036854775807 then ((strconv_Itoa.f ((rd_T46 x8 x10).f2)).bind fun t420 => (if (((t418 ++ (⟨#[46]⟩ : ByteArray)) ++ t419) ++ (⟨#[46]⟩ : ByteArray)).size + t420.size ≤ 9223372036854775807 then (if x3.length < 8796093022208 then (impl_puzzleText.l0 k (x3 ++ [(((t418 ++ (⟨#[46]⟩ : ByteArray)) ++ t419) ++ (⟨#[46]⟩ : ByteArray)) ++ t420]) x8 x9 (wrap64 (x10 + 1))) else (none)) else (none))) else (none)) else (none))) else (none))) else (none)) else (none)) else ((strings_Join.f x3 (⟨#[44]⟩ : ByteArray)).bind fun t424 => (some t424))
def impl_puzzleText.f (k : Nat) (l0_0 : List (S46)) : Option (ByteArray) := impl_puzzleText.l0 k (([] : List ByteArray)) l0_0 (l0_0.length : Int) 0
theorem impl_puzzleText.mono_l : ∀ k, (∀ y0 y1 y2 y3, LeO (impl_puzzleText.l0 k y0 y1 y2 y3) (impl_puzzleText.l0 (k + 1) y0 y1 y2 y3))
 | 0 => fun _ _ _ _ r h => by simp [impl_puzzleText.l0] at h
 | k + 1 => by
  have ih0 := impl_puzzleText.mono_l k
  intro y0 y1 y2 y3
  unfold impl_puzzleText.l0
  have m1_ := @ih0
  exact zM_
theorem impl_puzzleText.mono : ∀ a0 k, LeO (impl_puzzleText.f k a0) (impl_puzzleText.f (k + 1) a0) := by
 intro a0 k
 have ih0 := impl_puzzleText.mono_l k
 unfold impl_puzzleText.f
 have m1_ := @ih0
 exact zM_
def impl_puzzleText.T5 : Bool × List (List Nat × List Nat) := (true, [([], []), ([], []), ([1], [1]), ([2], [2]), ([3], [3]), ([], []), ([5], [5]), ([6, 3], [6]), ([4, 7], [4, 7]), ([8], [8]), ([], []), ([10], [10]), ([11, 7], [11]), ([9, 12], [9, 12]), ([13], [13]), ([0, 14, 12], [0, 14]), ([15, 15, 0, 1, 2, 3, 4, 5, 6, 7, 8, 9, 10, 11, 12, 13, 14, 15], [0, 15])])
def impl_puzzleText.B5 : List Nat := [0, 0, 2, 6, 14, 0, 32, 110, 254, 510, 0, 1024, 3310, 8190, 16382, 32767, 65535]
theorem impl_puzzleText.tab5 : rtab .any (opsOf Tryz.f44 5) = impl_puzzleText.T5 := by kernel_rfl
theorem impl_puzzleText.bits5 : waitsOk impl_puzzleText.T5.2 impl_puzzleText.B5 = true := by kernel_rfl
theorem impl_puzzleText.calls (k : Nat) (A0_0 : Option Addr) (c0_0 : Nat) (l0_0 : List (S46)) (r : ByteArray) (w : World) (hr0_0 : Kd.C k46 w A0_0 l0_0.length l0_0) (hc0_0 : l0_0.length ≤ c0_0) (h : impl_puzzleText.f k l0_0 = some r) :
 Calls Tryz.prog 44 #[.agg #[.slice A0_0 l0_0.length c0_0]] w fun e w' => e = .returned (.string r) ∧ Below w.heap.size w w' := by
 have hu26 := Tryz.underlying26
 have hu46 := Tryz.underlying46
 have HR0_0 := Aside0.mk hr0_0
 have HC0_0 := Aside0.mk hc0_0
 clear hr0_0 hc0_0
 have HB := Aside0.mk (Below.refl w.heap.size w)
 unfold impl_puzzleText.f at h
 have H := h
 clear h
 obtain ⟨y413, hy413⟩ : ∃ y_ : List ByteArray, y_ = (([] : List ByteArray)) := ⟨_, rfl⟩
 replace H : (impl_puzzleText.l0 k y413 l0_0 (l0_0.length : Int) 0) = some r := by first | (rw [hy413]; with_reducible exact H) | (have H2_ := (Option.bind_some _ _).symm.trans H; rw [hy413]; with_reducible exact H2_) | (have H2_ := (Option.bind_some _ _).symm.trans H; with_reducible exact H2_) | with_reducible exact H | (rw [hy413]; exact H) | exact H
 have Ny413 := Aside0.mk hy413
 clear hy413
 have H' := Aside0.mk H
 clear H
 go_enter Tryz.func44, Tryz.ntmps44
 go_wp2_with (first | (refine bx_ 1 #[.slice A0_0 l0_0.length c0_0] 26 ?_; intro gb412 hg w2 hbox hb; have BK412 := Aside0.mk (hbox); have GW412 : Aside0 (w.heap.size ≤ gb412) := bs_ hg zB_; have GE412 := GW412; replace HB := Aside0.mk (below_step zB_ hb); clear hb hbox hg) | ((with_reducible refine gate_dst (N := 6) rfl ?_); refine Kd.R_lit Kd.string _ 9 ?hg (N := 6) ?hd (xs := ([] : List ByteArray)) (inner := []) (ok := fun _ => True) (okp := fun _ => True) ?hr ?hp (fun _ hk => hk) trivial (Below.refl _ _) (Nat.le_refl _) (by simp) ?_; (case hd => rfl); (case hg => rfl); (case hr => exact zc15_6_); (case hp => exact (Reps.none _ _)); intro v414 w3 ho4 hb hg_ hnew_; clear hg_ hnew_; (first | rw [← Ny413.out] at ho4 | (simp only [Int.reduceToNat] at ho4; rw [← Ny413.out] at ho4)); have HO415 := Aside0.mk (Kd.R_lower ho4 (below_size z14_1_)); replace BK412 := bb_ BK412 z14_3_ hb; replace HB := Aside0.mk (below_step z14_1_ hb); clear hb ho4; have hcz5_0 : w3.cell? ⟨gb412, 0, none⟩ = some (.slice A0_0 l0_0.length c0_0) := (blk_cell BK412.out 0).trans rfl; have hfz5_0 := blk_frozen BK412.out 0))
 go_loopg [3, 10] k (fun kq v3 v10 w' => ∃ (x3_1 : List ByteArray) (x10_1 : Int), v10 = .int .i64 x10_1 ∧ Aside0 (impl_puzzleText.l0 kq x3_1 l0_0 (l0_0.length : Int) x10_1 = some r) ∧ Aside0 (kq ≤ k) ∧ Aside0 (Kd.R Kd.string 9 w' w.heap.size (fun _ => True) v3 x3_1) ∧ Aside0 (w'.heap[gb412]? = some (.cells #[(.slice A0_0 l0_0.length c0_0)] 26 (0, 0))) ∧ Aside0 (Below w.heap.size w w'))
 case atStart => exact ⟨(y413), (0), zV_, H', ⟨Nat.le_refl _⟩, ⟨rr_ HO415.out⟩, ⟨b_ BK412.out⟩, ⟨zs15_18⟩⟩
 case round =>
  clear H'
  obtain ⟨x3_1, x10_1, rfl, HA, HK1, HO_3, BK412, HB⟩ := hrel
  cases gk with
  | zero => exact absurd HA.out (by simp [impl_puzzleText.l0])
  | succ k1 =>
   have H := HA.out
   clear HA
   simp only [impl_puzzleText.l0] at H
   by_cases c6 : x10_1 < (l0_0.length : Int)
   · rw [if_pos c6] at H
     have c6b0 := decide_eq_true c6
     clear c6
     replace H := gd_ H; obtain ⟨c7, H⟩ := H
     have c7b0 : decide (0 ≤ x10_1) = true := decide_eq_true c7
     clear c7
     replace H := gd_ H; obtain ⟨c8, H⟩ := H
     have c8b0 : decide (x10_1 < (l0_0.length : Int)) = true := decide_eq_true c8
     clear c8
     replace H := bd_ H; obtain ⟨t418, A9, H⟩ := H
     replace H := gd_ H; obtain ⟨c10, H⟩ := H
     have c10b0 := eq_true c10
     have c10b1 : decide (t418.size + 1 ≤ 9223372036854775807) = true := decide_eq_true c10
     try have c10b2 : (9223372036854775807 < t418.size + 1) = False := eq_false (Nat.not_lt.2 c10)
     replace H := bd_ H; obtain ⟨t419, A11, H⟩ := H
     replace H := gd_ H; obtain ⟨c12, H⟩ := H
     have c12b0 := eq_true c12
     have c12b1 : decide ((t418 ++ (⟨#[46]⟩ : ByteArray)).size + t419.size ≤ 9223372036854775807) = true := decide_eq_true c12
     try have c12b2 : (9223372036854775807 < (t418 ++ (⟨#[46]⟩ : ByteArray)).size + t419.size) = False := eq_false (Nat.not_lt.2 c12)
     try have c12b3 : (9223372036854775807 < t418.size + 1 + t419.size) = False := eq_false (Nat.not_lt.2 zq15_2_)
     replace H := gd_ H; obtain ⟨c13, H⟩ := H
     have c13b0 := eq_true c13
     have c13b1 : decide (((t418 ++ (⟨#[46]⟩ : ByteArray)) ++ t419).size + 1 ≤ 9223372036854775807) = true := decide_eq_true c13
     try have c13b2 : (9223372036854775807 < ((t418 ++ (⟨#[46]⟩ : ByteArray)) ++ t419).size + 1) = False := eq_false (Nat.not_lt.2 c13)
     try have c13b3 : (9223372036854775807 < t418.size + 1 + t419.size + 1) = False := eq_false (Nat.not_lt.2 zq15_1_)
     replace H := bd_ H; obtain ⟨t420, A14, H⟩ := H
     replace H := gd_ H; obtain ⟨c15, H⟩ := H
     have c15b0 := eq_true c15
     have c15b1 : decide ((((t418 ++ (⟨#[46]⟩ : ByteArray)) ++ t419) ++ (⟨#[46]⟩ : ByteArray)).size + t420.size ≤ 9223372036854775807) = true := decide_eq_true c15
     try have c15b2 : (9223372036854775807 < (((t418 ++ (⟨#[46]⟩ : ByteArray)) ++ t419) ++ (⟨#[46]⟩ : ByteArray)).size + t420.size) = False := eq_false (Nat.not_lt.2 c15)
     try have c15b3 : (9223372036854775807 < t418.size + 1 + t419.size + 1 + t420.size) = False := eq_false (Nat.not_lt.2 zq15_0_)
     replace H := gd_ H; obtain ⟨c16, H⟩ := H
     have LMc16 := Aside0.mk c16
     clear c16
     obtain ⟨y421, hy421⟩ : ∃ y_ : List ByteArray, y_ = (x3_1 ++ [(((t418 ++ (⟨#[46]⟩ : ByteArray)) ++ t419) ++ (⟨#[46]⟩ : ByteArray)) ++ t420]) := ⟨_, rfl⟩
     replace H : (impl_puzzleText.l0 k1 y421 l0_0 (l0_0.length : Int) (wrap64 (x10_1 + 1))) = some r := by first | (rw [hy421]; with_reducible exact H) | (have H2_ := (Option.bind_some _ _).symm.trans H; rw [hy421]; with_reducible exact H2_) | (have H2_ := (Option.bind_some _ _).symm.trans H; with_reducible exact H2_) | with_reducible exact H | (rw [hy421]; exact H) | exact H
     have Ny421 := Aside0.mk hy421
     clear hy421
     have H' := Aside0.mk H
     clear H
     have p416 : 0 ≤ (x10_1 : Int) := of_decide_eq_true zS_
     have q416 : x10_1 < (l0_0.length : Int) := of_decide_eq_true zS_
     obtain ⟨ad416, e416, hx416_0, hx416_1, hx416_2⟩ := at_T46 HR0_0.out x10_1 p416 q416
     cases e416
     replace hx416_0 := (HB.out.cell (World.block_lt_of_cell? w _ hx416_0)).trans hx416_0
     replace hx416_1 := (HB.out.cell (World.block_lt_of_cell? w _ hx416_1)).trans hx416_1
     replace hx416_2 := (HB.out.cell (World.block_lt_of_cell? w _ hx416_2)).trans hx416_2
     replace p416 := eq_true p416
     replace q416 := eq_true q416
     try go_wp2_with (first | (refine bx_ 5 #[.int .i64 0, .int .i64 0, .int .i64 0] 46 ?_; intro gb417 hg w17 hbox hb; replace HO_3 := Aside0.mk (Kd.R_below z14_6_ hb); have BK417 := Aside0.mk (hbox); have GW417 : Aside0 (w.heap.size ≤ gb417) := bs_ hg z14_1_; have GE417 := GW417; replace HB := Aside0.mk (below_step z14_1_ hb); have NB412_417 := nl_ BK412 z14_3_ hg; have NB417_412 := ns_ NB412_417; replace BK412 := bb_ BK412 z14_3_ hb; clear hb hbox hg; have hnb18 := NB417_412.out; have hnc18 := NB412_417.out; have hcz19_0 : w17.cell? ⟨gb417, 0, none⟩ = some (.int .i64 0) := (blk_cell BK417.out 0).trans rfl; have hcz19_1 : w17.cell? ⟨gb417, 1, none⟩ = some (.int .i64 0) := (blk_cell BK417.out 1).trans rfl; have hcz19_2 : w17.cell? ⟨gb417, 2, none⟩ = some (.int .i64 0) := (blk_cell BK417.out 2).trans rfl; have hfz19_0 := blk_frozen BK417.out 0; have hfz19_1 := blk_frozen BK417.out 1; have hfz19_2 := blk_frozen BK417.out 2))
     have n0_ : Aside0 (Kd.R Kd.string 9 (((w17.setCell ⟨gb417, 0, none⟩ (.int .i64 ((rd_T46 l0_0 x10_1).f0))).setCell ⟨gb417, 1, none⟩ (.int .i64 ((rd_T46 l0_0 x10_1).f1))).setCell ⟨gb417, 2, none⟩ (.int .i64 ((rd_T46 l0_0 x10_1).f2))) w.heap.size (fun _ => True) u3 x3_1) := ⟨by refine rr_ ?_; exact Kd.R_mono (Kd.R_far (p := ⟨gb417, 2, none⟩) (Kd.R_far (p := ⟨gb417, 1, none⟩) (Kd.R_far (p := ⟨gb417, 0, none⟩) (Kd.R_types HO_3.out BK417.out (by decide)) (fun _ hk => hk.2) (.int .i64 ((rd_T46 l0_0 x10_1).f0))) (fun _ hk => hk.2) (.int .i64 ((rd_T46 l0_0 x10_1).f1))) (fun _ hk => hk.2) (.int .i64 ((rd_T46 l0_0 x10_1).f2))) (fun _ hk => trivial)⟩
     have n1_ : Aside0 ((((w17.setCell ⟨gb417, 0, none⟩ (.int .i64 ((rd_T46 l0_0 x10_1).f0))).setCell ⟨gb417, 1, none⟩ (.int .i64 ((rd_T46 l0_0 x10_1).f1))).setCell ⟨gb417, 2, none⟩ (.int .i64 ((rd_T46 l0_0 x10_1).f2))).heap[gb412]? = some (.cells #[.slice (some ad416) l0_0.length c0_0] 26 (0, 0))) := ⟨by refine b_ ?_; refine blk_far ?_ NB412_417.out _; refine b_ ?_; refine blk_far ?_ NB412_417.out _; refine b_ ?_; refine blk_far ?_ NB412_417.out _; exact b_ BK412.out⟩
     have n2_ : Aside0 ((((w17.setCell ⟨gb417, 0, none⟩ (.int .i64 ((rd_T46 l0_0 x10_1).f0))).setCell ⟨gb417, 1, none⟩ (.int .i64 ((rd_T46 l0_0 x10_1).f1))).setCell ⟨gb417, 2, none⟩ (.int .i64 ((rd_T46 l0_0 x10_1).f2))).heap[gb417]? = some (.cells #[.int .i64 ((rd_T46 l0_0 x10_1).f0), .int .i64 ((rd_T46 l0_0 x10_1).f1), .int .i64 ((rd_T46 l0_0 x10_1).f2)] 46 (0, 0))) := ⟨by refine b_ ?_; refine blk_put (cs := #[.int .i64 ((rd_T46 l0_0 x10_1).f0), .int .i64 ((rd_T46 l0_0 x10_1).f1), .int .i64 0]) ?_ 2 _ rfl; refine b_ ?_; refine blk_put (cs := #[.int .i64 ((rd_T46 l0_0 x10_1).f0), .int .i64 0, .int .i64 0]) ?_ 1 _ rfl; refine b_ ?_; refine blk_put (cs := #[.int .i64 0, .int .i64 0, .int .i64 0]) ?_ 0 _ rfl; exact b_ BK417.out⟩
     have n3_ : Aside0 (Below w.heap.size w (((w17.setCell ⟨gb417, 0, none⟩ (.int .i64 ((rd_T46 l0_0 x10_1).f0))).setCell ⟨gb417, 1, none⟩ (.int .i64 ((rd_T46 l0_0 x10_1).f1))).setCell ⟨gb417, 2, none⟩ (.int .i64 ((rd_T46 l0_0 x10_1).f2)))) := ⟨zs15_19⟩
     generalize (((w17.setCell ⟨gb417, 0, none⟩ (.int .i64 ((rd_T46 l0_0 x10_1).f0))).setCell ⟨gb417, 1, none⟩ (.int .i64 ((rd_T46 l0_0 x10_1).f1))).setCell ⟨gb417, 2, none⟩ (.int .i64 ((rd_T46 l0_0 x10_1).f2))) = w20 at n0_ n1_ n2_ n3_ ⊢
     have HO_3 := n0_
     have BK412 := n1_
     have BK417 := n2_
     have HB := n3_
     clear n0_ n1_ n2_ n3_
     replace HO_3 := Aside0.mk (Kd.R_drew HO_3.out)
     replace BK412 := Aside0.mk (blk_drew BK412.out)
     replace BK417 := Aside0.mk (blk_drew BK417.out)
     replace HB := Aside0.mk (below_drew1 HB.out)
     refine start_ (n := 17) (S := fun w' => w'.cell? ⟨gb417, 0, none⟩ = some (.int .i64 ((rd_T46 l0_0 x10_1).f0)) ∧ w'.cell? ⟨gb417, 1, none⟩ = some (.int .i64 ((rd_T46 l0_0 x10_1).f1)) ∧ w'.cell? ⟨gb417, 2, none⟩ = some (.int .i64 ((rd_T46 l0_0 x10_1).f2))) (ds := []) #[false, false, false, false, false, false, false, false, false, false, false, false, false, false, false, false, false] (by kernel_rfl) rfl rfl ⟨(blk_cell BK417.out 0).trans rfl, (blk_cell BK417.out 1).trans rfl, (blk_cell BK417.out 2).trans rfl⟩ (fun hHeld => ?_); refine with_tabW impl_puzzleText.tab5 impl_puzzleText.bits5 (fun HT_ HW_ => ?_)
     generalize w20.drew = w21 at HO_3 BK412 BK417 HB hHeld ⊢
     refine pq_ 0 14 ?_
     refine pq_ 1 15 ?_
     refine pq_ 5 19 ?_
     refine pq_ 10 24 ?_
     refine take_ (i := 2) (N := some 16) (v := ?_) (a' := ?_) #[true, true, true, false, false, true, false, false, false, false, true, false, false, false, false, false, false] rfl rfl (take_ofW HT_.out HW_.out (by kernel_rfl)) (fun _ _ _ h => h) (Or.inl ⟨by rfl, ?_⟩) hHeld ?_ ?_
     rotate_left
     · rintro w' ⟨s0, s1, s2⟩
       go_simp
       with_reducible rfl
     rotate_left
     · simp only [Act.put, List.setIfInBounds_toArray, List.set_cons_zero, List.set_cons_succ, i64_w, i32_w]
       rfl
     refine take_ (i := 6) (N := some 20) (v := ?_) (a' := ?_) #[true, true, true, false, false, true, true, false, false, false, true, false, false, false, false, false, false] rfl rfl (take_ofW HT_.out HW_.out (by kernel_rfl)) (fun _ _ _ h => h) (Or.inl ⟨by rfl, ?_⟩) hHeld ?_ ?_
     rotate_left
     · rintro w' ⟨s0, s1, s2⟩
       go_simp
       with_reducible rfl
     rotate_left
     · simp only [Act.put, List.setIfInBounds_toArray, List.set_cons_zero, List.set_cons_succ, i64_w, i32_w]
       rfl
     refine take_ (i := 11) (N := some 25) (v := ?_) (a' := ?_) #[true, true, true, false, false, true, true, false, false, false, true, true, false, false, false, false, false] rfl rfl (take_ofW HT_.out HW_.out (by kernel_rfl)) (fun _ _ _ h => h) (Or.inl ⟨by rfl, ?_⟩) hHeld ?_ ?_
     rotate_left
     · rintro w' ⟨s0, s1, s2⟩
       go_simp
       with_reducible rfl
     rotate_left
     · simp only [Act.put, List.setIfInBounds_toArray, List.set_cons_zero, List.set_cons_succ, i64_w, i32_w]
       rfl
     refine one_ (i := 3) (N := some 17) #[true, true, true, true, false, true, true, false, false, false, true, true, false, false, false, false, false] rfl rfl (one_of HT_.out (by kernel_rfl)) (by decide) (fun K hK => ?_)
     refine goes_ Tryz.func60 (by kernel_rfl) rfl #[.int .i64 ((rd_T46 l0_0 x10_1).f0)] (by rfl) rfl rfl z14_2_ ?_
     with_reducible refine (strconv_Itoa.calls ((rd_T46 l0_0 x10_1).f0) t418 _ A9.out).mono ?_
     rintro e w' ⟨rfl, ⟨nd, rfl⟩⟩
     refine ⟨_, rfl, ?_⟩
     refine hK.out _ _ ⟨(blk_cell BK417.out 0).trans rfl, (blk_cell BK417.out 1).trans rfl, (blk_cell BK417.out 2).trans rfl⟩ (fun hHeld => ?_)
     clear hK K
     refine norm_ (a' := ?_) ?_ ?_
     rotate_left
     · show Act.put _ (some 17) _ = _
       simp only [Act.put, List.setIfInBounds_toArray, List.set_cons_zero, List.set_cons_succ, i64_w, i32_w]
       rfl
     refine pq_ 4 18 ?_
     refine one_ (i := 7) (N := some 21) #[true, true, true, true, true, true, true, true, false, false, true, true, false, false, false, false, false] rfl rfl (one_of HT_.out (by kernel_rfl)) (by decide) (fun K hK => ?_)
     refine goes_ Tryz.func60 (by kernel_rfl) rfl #[.int .i64 ((rd_T46 l0_0 x10_1).f1)] (by rfl) rfl rfl z14_2_ ?_
     with_reducible refine (strconv_Itoa.calls ((rd_T46 l0_0 x10_1).f1) t419 _ A11.out).mono ?_
     rintro e w' ⟨rfl, ⟨nd, rfl⟩⟩
     refine ⟨_, rfl, ?_⟩
     refine hK.out _ _ ⟨(blk_cell BK417.out 0).trans rfl, (blk_cell BK417.out 1).trans rfl, (blk_cell BK417.out 2).trans rfl⟩ (fun hHeld => ?_)
     clear hK K
     refine norm_ (a' := ?_) ?_ ?_
     rotate_left
     · show Act.put _ (some 21) _ = _
       simp only [Act.put, List.setIfInBounds_toArray, List.set_cons_zero, List.set_cons_succ, i64_w, i32_w]
       rfl
     refine pq_ 8 22 ?_
     refine pq_ 9 23 ?_
     refine one_ (i := 12) (N := some 26) #[true, true, true, true, true, true, true, true, true, true, true, true, true, false, false, false, false] rfl rfl (one_of HT_.out (by kernel_rfl)) (by decide) (fun K hK => ?_)
     refine goes_ Tryz.func60 (by kernel_rfl) rfl #[.int .i64 ((rd_T46 l0_0 x10_1).f2)] (by rfl) rfl rfl z14_2_ ?_
     with_reducible refine (strconv_Itoa.calls ((rd_T46 l0_0 x10_1).f2) t420 _ A14.out).mono ?_
     rintro e w' ⟨rfl, ⟨nd, rfl⟩⟩
     refine ⟨_, rfl, ?_⟩
     refine hK.out _ _ ⟨(blk_cell BK417.out 0).trans rfl, (blk_cell BK417.out 1).trans rfl, (blk_cell BK417.out 2).trans rfl⟩ (fun hHeld => ?_)
     clear hK K
     refine norm_ (a' := ?_) ?_ ?_
     rotate_left
     · show Act.put _ (some 26) _ = _
       simp only [Act.put, List.setIfInBounds_toArray, List.set_cons_zero, List.set_cons_succ, i64_w, i32_w]
       rfl
     refine pq_ 13 27 ?_
     refine one_ (i := 14) (N := some 28) #[true, true, true, true, true, true, true, true, true, true, true, true, true, true, true, false, false] rfl rfl (one_of HT_.out (by kernel_rfl)) (by decide) (fun K hK => ?_)
     refine value_ (w1 := ?_) (v := ?_) (by rfl) rfl ?_ ?_
     rotate_left 2
     · go_simp
       constructor
       · rfl
       rfl
     refine hK.out _ _ ⟨(blk_cell (blk_alloc BK417.out _) 0).trans rfl, (blk_cell (blk_alloc BK417.out _) 1).trans rfl, (blk_cell (blk_alloc BK417.out _) 2).trans rfl⟩ (fun hHeld => ?_)
     clear hK K
     refine norm_ (a' := ?_) ?_ ?_
     rotate_left
     · show Act.put _ (some 28) _ = _
       simp only [Act.put, List.setIfInBounds_toArray, List.set_cons_zero, List.set_cons_succ, i64_w, i32_w]
       rfl
     refine one_ (i := 15) (N := some 29) #[true, true, true, true, true, true, true, true, true, true, true, true, true, true, true, true, false] rfl rfl (one_of HT_.out (by kernel_rfl)) (by decide) (fun K hK => ?_)
     refine Kd.R_append_step Kd.string (w0 := w) w.heap.size (by rfl) (.tmp 14) (.tmp 28) 28 9 (.string ⟨#[]⟩) 16 rfl Tryz.underlying28 info9 rfl (by decide) (by omega) u3 x3_1 ((((t418 ++ (⟨#[46]⟩ : ByteArray)) ++ t419) ++ (⟨#[46]⟩ : ByteArray)) ++ t420) [.string ((((t418 ++ (⟨#[46]⟩ : ByteArray)) ++ t419) ++ (⟨#[46]⟩ : ByteArray)) ++ t420)] (fun _ => True) (fun _ => False) rfl rfl ?aP (fun _ hk => hk.elim) ?aF ?aO ?aB ?aS ?aL ?_
     (case aP => exact rfl)
     (case aB => exact (by repeat (first | (with_reducible first | exact HB.out | apply below_alloc | apply pw_below_drewN | apply below_drew1 | refine below_set ?_ GE412.out | refine below_set ?_ GE417.out) | exact HB.out)))
     (case aF => exact (fun _ _ => trivial))
     (case aO => exact z14_6_)
     (case aS => exact (below_size (by repeat (first | (with_reducible first | exact HB.out | apply below_alloc | apply pw_below_drewN | apply below_drew1 | refine below_set ?_ GE412.out | refine below_set ?_ GE417.out) | exact HB.out))))
     (case aL => have := LMc16.out; omega)
     intro v422 w22 ho hb hg hat
     rw [← Ny421.out] at ho
     replace BK412 := Aside0.mk (blk_grown (g := gb412) (o := .cells #[.slice (some ad416) l0_0.length c0_0] 26 (0, 0)) z14_3_ hg (Kd.R_ne HO_3.out BK412.out (by decide)))
     replace BK417 := Aside0.mk (blk_grown (g := gb417) (o := .cells #[.int .i64 ((rd_T46 l0_0 x10_1).f0), .int .i64 ((rd_T46 l0_0 x10_1).f1), .int .i64 ((rd_T46 l0_0 x10_1).f2)] 46 (0, 0)) (b_ BK417.out) hg (Kd.R_ne HO_3.out BK417.out (by decide)))
     replace HB := Aside0.mk (hb)
     have HO423 := Aside0.mk (ho)
     clear HO_3
     clear ho hb hg hat
     refine hK.out _ _ ⟨(blk_cell BK417.out 0).trans rfl, (blk_cell BK417.out 1).trans rfl, (blk_cell BK417.out 2).trans rfl⟩ (fun hHeld => ?_)
     clear hK K
     refine norm_ (a' := ?_) ?_ ?_
     rotate_left
     · show Act.put _ (some 29) _ = _
       simp only [Act.put, List.setIfInBounds_toArray, List.set_cons_zero, List.set_cons_succ, i64_w, i32_w]
       rfl
     refine pq_ 16 3 ?_
     refine done_ (done_of HT_.out (by kernel_rfl)) ?_
     try go_wp2
     go_roundg k1
     case measure => have := HK1.out; omega
     case rel => exact ⟨(y421), (wrap64 (x10_1 + 1)), zV_, H', ⟨zs15_9⟩, ⟨rr_ HO423.out⟩, ⟨b_ BK412.out⟩, ⟨zs15_19⟩⟩
   rw [if_neg c6] at H
   have c6b0 := decide_eq_false c6
   clear c6
   replace H := bd_ H; obtain ⟨t424, A23, H⟩ := H
   obtain rfl := Option.some.inj H
   obtain ⟨Ao24, co24, eo24⟩ := Kd.R_slice HO_3.out
   subst eo24
   go_wp2_with (first | ((with_reducible refine gc_ 66 rfl ?_); refine gL_ 32 Tryz.func66 #[.slice Ao24 x3_1.length co24, .string (⟨#[44]⟩ : ByteArray)] ?_; (with_reducible refine (strings_Join.calls _ _ x3_1 (⟨#[44]⟩ : ByteArray) t424 _ ?side1 ?side2 A23.out).mono ?_); (case side1 => repeat (first | exact (Kd.R_reads' HO_3.out).2.2 | (with_reducible refine Kd.C_alloc ?_ _) | (with_reducible refine Kd.C_drewN ?_ _) | (with_reducible refine Kd.C_drew ?_))); (case side2 => exact (Kd.R_reads' HO_3.out).2.1); rintro e w25 ⟨rfl, hb⟩; refine ⟨_, rfl, ?_⟩; replace HO_3 := Aside0.mk (Kd.R_below z14_6_ hb); replace BK412 := bb_ BK412 z14_3_ hb; replace HB := Aside0.mk (below_step z14_1_ hb)))
   go_ret
   exact ⟨zR_, zs15_18⟩

/-! ### impl_PuzzleText: function 22 -/
def impl_PuzzleText.f (k : Nat) (l0_0 : List (S46)) : Option (ByteArray × Bool) := (impl_IsPuzzle.f k l0_0).bind fun t426 => (if t426 = true then ((impl_puzzleText.f k l0_0).bind fun t427 => (some (t427, true))) else (some ((⟨#[]⟩ : ByteArray), false)))
theorem impl_PuzzleText.mono : ∀ a0 k, LeO (impl_PuzzleText.f k a0) (impl_PuzzleText.f (k + 1) a0) := by
 intro a0 k
 unfold impl_PuzzleText.f
 have m1_ := @impl_IsPuzzle.mono
 have m2_ := @impl_puzzleText.mono
 exact zM_
theorem impl_PuzzleText.calls (k : Nat) (A0_0 : Option Addr) (c0_0 : Nat) (l0_0 : List (S46)) (r1 : ByteArray) (r2 : Bool) (w : World) (hr0_0 : Kd.C k46 w A0_0 l0_0.length l0_0) (hc0_0 : l0_0.length ≤ c0_0) (h : impl_PuzzleText.f k l0_0 = some (r1, r2)) :
 Calls Tryz.prog 22 #[.agg #[.slice A0_0 l0_0.length c0_0]] w fun e w' => e = .returned (.tuple #[.string r1, .bool r2]) ∧ Below w.heap.size w w' := by
 have hu26 := Tryz.underlying26
 have HR0_0 := Aside0.mk hr0_0
 have HC0_0 := Aside0.mk hc0_0
 clear hr0_0 hc0_0
 have HB := Aside0.mk (Below.refl w.heap.size w)
 unfold impl_PuzzleText.f at h
 have H := h
 clear h
 replace H := bd_ H; obtain ⟨t426, A2, H⟩ := H
 by_cases c3 : t426 = true
 · subst c3
   rw [if_pos rfl] at H
   replace H := bd_ H; obtain ⟨t427, A4, H⟩ := H
   simp only [Option.some.injEq, Prod.mk.injEq] at H
   obtain ⟨rfl, rfl⟩ := H
   go_enter Tryz.func22, Tryz.ntmps22
   go_wp2_with (first | (refine bx_ 1 #[.slice A0_0 l0_0.length c0_0] 26 ?_; intro gb425 hg w5 hbox hb; have BK425 := Aside0.mk (hbox); have GW425 : Aside0 (w.heap.size ≤ gb425) := bs_ hg zB_; have GE425 := GW425; replace HB := Aside0.mk (below_step zB_ hb); clear hb hbox hg; have hcz6_0 : w5.cell? ⟨gb425, 0, none⟩ = some (.slice A0_0 l0_0.length c0_0) := (blk_cell BK425.out 0).trans rfl; have hfz6_0 := blk_frozen BK425.out 0) | ((with_reducible refine gc_ 26 rfl ?_); refine gL_ 5 Tryz.func26 #[.agg #[.slice A0_0 l0_0.length c0_0]] ?_; (with_reducible refine (impl_IsPuzzle.calls k _ _ l0_0 true _ ?side1 ?side2 A2.out).mono ?_); (case side1 => exact zc15_1_); (case side2 => exact HC0_0.out); rintro e w7 ⟨rfl, hb⟩; refine ⟨_, rfl, ?_⟩; replace BK425 := bb_ BK425 z14_5_ hb; replace HB := Aside0.mk (below_step z14_4_ hb); have hcz8_0 : w7.cell? ⟨gb425, 0, none⟩ = some (.slice A0_0 l0_0.length c0_0) := (blk_cell BK425.out 0).trans rfl; have hfz8_0 := blk_frozen BK425.out 0) | ((with_reducible refine gc_ 44 rfl ?_); refine gL_ 8 Tryz.func44 #[.agg #[.slice A0_0 l0_0.length c0_0]] ?_; (with_reducible refine (impl_puzzleText.calls k _ _ l0_0 t427 _ ?side1 ?side2 A4.out).mono ?_); (case side1 => exact zc15_1_); (case side2 => exact HC0_0.out); rintro e w9 ⟨rfl, hb⟩; refine ⟨_, rfl, ?_⟩; replace BK425 := bb_ BK425 z14_5_ hb; replace HB := Aside0.mk (below_step z14_4_ hb)))
   go_ret2
   exact ⟨zR_, zs15_20⟩
 replace H := bf_ c3 H; obtain ⟨rfl, H⟩ := H
 simp only [Option.some.injEq, Prod.mk.injEq] at H
 obtain ⟨rfl, rfl⟩ := H
 go_enter Tryz.func22, Tryz.ntmps22
 go_wp2_with (first | (refine bx_ 1 #[.slice A0_0 l0_0.length c0_0] 26 ?_; intro gb425 hg w10 hbox hb; have BK425 := Aside0.mk (hbox); have GW425 : Aside0 (w.heap.size ≤ gb425) := bs_ hg zB_; have GE425 := GW425; replace HB := Aside0.mk (below_step zB_ hb); clear hb hbox hg; have hcz11_0 : w10.cell? ⟨gb425, 0, none⟩ = some (.slice A0_0 l0_0.length c0_0) := (blk_cell BK425.out 0).trans rfl; have hfz11_0 := blk_frozen BK425.out 0) | ((with_reducible refine gc_ 26 rfl ?_); refine gL_ 5 Tryz.func26 #[.agg #[.slice A0_0 l0_0.length c0_0]] ?_; (with_reducible refine (impl_IsPuzzle.calls k _ _ l0_0 false _ ?side1 ?side2 A2.out).mono ?_); (case side1 => exact zc15_1_); (case side2 => exact HC0_0.out); rintro e w12 ⟨rfl, hb⟩; refine ⟨_, rfl, ?_⟩; replace BK425 := bb_ BK425 z14_5_ hb; replace HB := Aside0.mk (below_step z14_4_ hb)))
 go_ret2
 exact ⟨zR_, zs15_20⟩

theorem z15_0_ {p : Prop} (h : p := by exact b_ BK428.out) : p := h
theorem z15_1_ {p : Prop} (h : p := by (try simp only [List.map_toArray, List.map_cons, List.map_nil]); first | done | rfl | (simp only [List.length_drop, List.length_take]; rfl)) : p := h
theorem z15_3_ {p : Prop} (h : p := by repeat (first | (with_reducible first | exact HB.out | apply below_alloc | apply pw_below_drewN | apply below_drew1 | refine below_set ?_ GE428.out | refine below_set ?_ GE430.out) | exact HB.out)) : p := h
theorem z15_4_ {p : Prop} (h : p := by repeat (first | (with_reducible first | exact HB.out | apply below_alloc | apply pw_below_drewN | apply below_drew1 | refine below_set ?_ GE428.out) | exact HB.out)) : p := h
theorem z15_5_ {p : Prop} (h : p := by exact b_ BK430.out) : p := h
theorem z15_7_ {p : Prop} (h : p := by repeat (first | (with_reducible first | exact HB.out | apply below_alloc | apply pw_below_drewN | apply below_drew1 | refine below_set ?_ GE437.out) | exact HB.out)) : p := h
theorem z15_9_ {p : Prop} (h : p := by exact b_ BK437.out) : p := h

/-! ### spec_pzText: function 45 -/
def spec_pzText.l0 : Nat → ByteArray → List (S46) → Int → Int → Option (ByteArray)
 | 0, _, _, _, _ => none
 | k + 1, x3, x7, x8, x9 => if x9 < x8 then (if 0 ≤ x9 then (if x9 < (x7.length : Int) then (if x9 > 0 then (if x3.size + 1 ≤ 9223372036854775807 then ((spec_l1Num.f k ((rd_T46 x7 x9).f0)).bind fun t431 => (if t431.size + 1 ≤ 9223372036854775807 then ((spec_l1Num.f k ((rd_T46 x7 x9).f1)).bind fun t432 => (if (t431 ++ (⟨#[46]⟩ : ByteArray)).size + t432.size ≤ 9223372036854775807 then (if ((t431 ++ (⟨#[46]⟩ : ByteArray)) ++ t432).size + 1 ≤ 9223372036854775807 then ((spec_l1Num.f k ((rd_T46 x7 x9).f2)).bind fun t433 => (if (((t431 ++ (⟨#[46]⟩ : ByteArray)) ++ t432) ++ (⟨#[46]⟩ : ByteArray)).size + t433.size ≤ 9223372036854775807 then (if (x3 ++ (⟨#[44]⟩ : ByteArray)).size + ((((t431 ++ (⟨#[46]⟩ : ByteArray)) ++ t432) ++ (⟨#[46]⟩ : ByteArray)) ++ t433).size ≤ 9223372036854775807 then (spec_pzText.l0 k ((x3 ++ (⟨#[44]⟩ : ByteArray)) ++ ((((t431 ++ (⟨#[46]⟩ : ByteArray)) ++ t432) ++ (⟨#[46]⟩ : ByteArray)) ++ t433)) x7 x8 (wrap64 (x9 + 1))) else (none)) else (none))) else (none)) else (none))) else (none))) else (none)) else ((spec_l1Num.f k ((rd_T46 x7 x9).f0)).bind fun t434 => (if t434.size + 1 ≤ 9223372036854775807 then ((spec_l1Num.f k ((rd_T46 x7 x9).f1)).bind fun t435 => (if (t434 ++ (⟨#[46]⟩ : ByteArray)).size + t435.size ≤ 9223372036854775807 then (if ((t434 ++ (⟨#[46]⟩ : ByteArray)) ++ t435).size + 1 ≤ 9223372036854775807 then ((spec_l1Num.f k ((rd_T46 x7 x9).f2)).bind fun t436 => (if (((t434 ++ (⟨#[46]⟩ : ByteArray)) ++ t435) ++ (⟨#[46]⟩ : ByteArray)).size + t436.size ≤ 9223372036854775807 then (if x3.size + ((((t434 ++ (⟨#[46]⟩ : ByteArray)) ++ t435) ++ (⟨#[46]⟩ : ByteArray)) ++ t436).size ≤ 9223372036854775807 then (spec_pzText.l0 k (x3 ++ ((((t434 ++ (⟨#[46]⟩ : ByteArray)) ++ t435) ++ (⟨#[46]⟩ : ByteArray)) ++ t436)) x7 x8 (wrap64 (x9 + 1))) else (none)) else (none))) else (none)) else (none))) else (none)))) else (none)) else (none)) else (some x3)
def spec_pzText.f (k : Nat) (l0_0 : List (S46)) : Option (ByteArray) := spec_pzText.l0 k (⟨#[]⟩ : ByteArray) l0_0 (l0_0.length : Int) 0
theorem spec_pzText.mono_l : ∀ k, (∀ y0 y1 y2 y3, LeO (spec_pzText.l0 k y0 y1 y2 y3) (spec_pzText.l0 (k + 1) y0 y1 y2 y3))
 | 0 => fun _ _ _ _ r h => by simp [spec_pzText.l0] at h
 | k + 1 => by
  have ih0 := spec_pzText.mono_l k
  intro y0 y1 y2 y3
  unfold spec_pzText.l0
  have m1_ := @ih0
  have m2_ := @spec_l1Num.mono
  exact zM_
theorem spec_pzText.mono : ∀ a0 k, LeO (spec_pzText.f k a0) (spec_pzText.f (k + 1) a0) := by
 intro a0 k
 have ih0 := spec_pzText.mono_l k
 unfold spec_pzText.f
 have m1_ := @ih0
 have m2_ := @spec_l1Num.mono
 exact zM_
def spec_pzText.T7 : Bool × List (List Nat × List Nat) := (true, [([], []), ([], []), ([1], [1]), ([2], [2]), ([3], [3]), ([], []), ([5], [5]), ([6, 3], [6]), ([4, 7], [4, 7]), ([8], [8]), ([], []), ([10], [10]), ([11, 7], [11]), ([9, 12], [9, 12]), ([0, 13], [0, 13]), ([14, 12, 0, 1, 2, 3, 4, 5, 6, 7, 8, 9, 10, 11, 12, 13, 14], [0, 14])])
def spec_pzText.B7 : List Nat := [0, 0, 2, 6, 14, 0, 32, 110, 254, 510, 0, 1024, 3310, 8190, 16383, 32767]
theorem spec_pzText.tab7 : rtab .any (opsOf Tryz.f45 7) = spec_pzText.T7 := by kernel_rfl
theorem spec_pzText.bits7 : waitsOk spec_pzText.T7.2 spec_pzText.B7 = true := by kernel_rfl
theorem spec_pzText.calls (k : Nat) (A0_0 : Option Addr) (c0_0 : Nat) (l0_0 : List (S46)) (r : ByteArray) (w : World) (hr0_0 : Kd.C k46 w A0_0 l0_0.length l0_0) (hc0_0 : l0_0.length ≤ c0_0) (h : spec_pzText.f k l0_0 = some r) :
 Calls Tryz.prog 45 #[.agg #[.slice A0_0 l0_0.length c0_0]] w fun e w' => e = .returned (.string r) ∧ Below w.heap.size w w' := by
 have hu26 := Tryz.underlying26
 have hu46 := Tryz.underlying46
 have HR0_0 := Aside0.mk hr0_0
 have HC0_0 := Aside0.mk hc0_0
 clear hr0_0 hc0_0
 have HB := Aside0.mk (Below.refl w.heap.size w)
 unfold spec_pzText.f at h
 have H := h
 clear h
 have H' := Aside0.mk H
 clear H
 go_enter Tryz.func45, Tryz.ntmps45
 go_wp2_with (first | (refine bx_ 1 #[.slice A0_0 l0_0.length c0_0] 26 ?_; intro gb428 hg w2 hbox hb; have BK428 := Aside0.mk (hbox); have GW428 : Aside0 (w.heap.size ≤ gb428) := bs_ hg zB_; have GE428 := GW428; replace HB := Aside0.mk (below_step zB_ hb); clear hb hbox hg; have hcz3_0 : w2.cell? ⟨gb428, 0, none⟩ = some (.slice A0_0 l0_0.length c0_0) := (blk_cell BK428.out 0).trans rfl; have hfz3_0 := blk_frozen BK428.out 0))
 go_loopg [3, 9] k (fun kq v3 v9 w' => ∃ (x3_1 : ByteArray) (x9_1 : Int), v3 = .string x3_1 ∧ v9 = .int .i64 x9_1 ∧ Aside0 (spec_pzText.l0 kq x3_1 l0_0 (l0_0.length : Int) x9_1 = some r) ∧ Aside0 (kq ≤ k) ∧ Aside0 (w'.heap[gb428]? = some (.cells #[(.slice A0_0 l0_0.length c0_0)] 26 (0, 0))) ∧ Aside0 (Below w.heap.size w w'))
 case atStart => exact ⟨((⟨#[]⟩ : ByteArray)), (0), zV_, zV_, H', ⟨Nat.le_refl _⟩, ⟨b_ BK428.out⟩, ⟨zs15_21⟩⟩
 case round =>
  clear H'
  obtain ⟨x3_1, x9_1, rfl, rfl, HA, HK1, BK428, HB⟩ := hrel
  cases gk with
  | zero => exact absurd HA.out (by simp [spec_pzText.l0])
  | succ k1 =>
   have H := HA.out
   clear HA
   simp only [spec_pzText.l0] at H
   by_cases c4 : x9_1 < (l0_0.length : Int)
   rotate_left
   · rw [if_neg c4] at H
     have c4b0 := decide_eq_false c4
     clear c4
     obtain rfl := Option.some.inj H
     go_wp2
     go_ret
     exact ⟨zR_, zs15_21⟩
   rw [if_pos c4] at H
   have c4b0 := decide_eq_true c4
   clear c4
   replace H := gd_ H; obtain ⟨c5, H⟩ := H
   have c5b0 : decide (0 ≤ x9_1) = true := decide_eq_true c5
   clear c5
   replace H := gd_ H; obtain ⟨c6, H⟩ := H
   have c6b0 : decide (x9_1 < (l0_0.length : Int)) = true := decide_eq_true c6
   clear c6
   by_cases c7 : x9_1 > 0
   · rw [if_pos c7] at H
     have c7b0 : decide (0 < x9_1) = true := decide_eq_true c7
     clear c7
     replace H := gd_ H; obtain ⟨c8, H⟩ := H
     have c8b0 := eq_true c8
     have c8b1 : decide (x3_1.size + 1 ≤ 9223372036854775807) = true := decide_eq_true c8
     try have c8b2 : (9223372036854775807 < x3_1.size + 1) = False := eq_false (Nat.not_lt.2 c8)
     replace H := bd_ H; obtain ⟨t431, A9, H⟩ := H
     replace H := gd_ H; obtain ⟨c10, H⟩ := H
     have c10b0 := eq_true c10
     have c10b1 : decide (t431.size + 1 ≤ 9223372036854775807) = true := decide_eq_true c10
     try have c10b2 : (9223372036854775807 < t431.size + 1) = False := eq_false (Nat.not_lt.2 c10)
     replace H := bd_ H; obtain ⟨t432, A11, H⟩ := H
     replace H := gd_ H; obtain ⟨c12, H⟩ := H
     have c12b0 := eq_true c12
     have c12b1 : decide ((t431 ++ (⟨#[46]⟩ : ByteArray)).size + t432.size ≤ 9223372036854775807) = true := decide_eq_true c12
     try have c12b2 : (9223372036854775807 < (t431 ++ (⟨#[46]⟩ : ByteArray)).size + t432.size) = False := eq_false (Nat.not_lt.2 c12)
     try have c12b3 : (9223372036854775807 < t431.size + 1 + t432.size) = False := eq_false (Nat.not_lt.2 zq15_2_)
     replace H := gd_ H; obtain ⟨c13, H⟩ := H
     have c13b0 := eq_true c13
     have c13b1 : decide (((t431 ++ (⟨#[46]⟩ : ByteArray)) ++ t432).size + 1 ≤ 9223372036854775807) = true := decide_eq_true c13
     try have c13b2 : (9223372036854775807 < ((t431 ++ (⟨#[46]⟩ : ByteArray)) ++ t432).size + 1) = False := eq_false (Nat.not_lt.2 c13)
     try have c13b3 : (9223372036854775807 < t431.size + 1 + t432.size + 1) = False := eq_false (Nat.not_lt.2 zq15_1_)
     replace H := bd_ H; obtain ⟨t433, A14, H⟩ := H
     replace H := gd_ H; obtain ⟨c15, H⟩ := H
     have c15b0 := eq_true c15
     have c15b1 : decide ((((t431 ++ (⟨#[46]⟩ : ByteArray)) ++ t432) ++ (⟨#[46]⟩ : ByteArray)).size + t433.size ≤ 9223372036854775807) = true := decide_eq_true c15
     try have c15b2 : (9223372036854775807 < (((t431 ++ (⟨#[46]⟩ : ByteArray)) ++ t432) ++ (⟨#[46]⟩ : ByteArray)).size + t433.size) = False := eq_false (Nat.not_lt.2 c15)
     try have c15b3 : (9223372036854775807 < t431.size + 1 + t432.size + 1 + t433.size) = False := eq_false (Nat.not_lt.2 zq15_0_)
     replace H := gd_ H; obtain ⟨c16, H⟩ := H
     have c16b0 := eq_true c16
     have c16b1 : decide ((x3_1 ++ (⟨#[44]⟩ : ByteArray)).size + ((((t431 ++ (⟨#[46]⟩ : ByteArray)) ++ t432) ++ (⟨#[46]⟩ : ByteArray)) ++ t433).size ≤ 9223372036854775807) = true := decide_eq_true c16
     try have c16b2 : (9223372036854775807 < (x3_1 ++ (⟨#[44]⟩ : ByteArray)).size + ((((t431 ++ (⟨#[46]⟩ : ByteArray)) ++ t432) ++ (⟨#[46]⟩ : ByteArray)) ++ t433).size) = False := eq_false (Nat.not_lt.2 c16)
     try have c16b3 : (9223372036854775807 < x3_1.size + 1 + (t431.size + 1 + t432.size + 1 + t433.size)) = False := eq_false (Nat.not_lt.2 (by simpa only [ByteArray.size_append, lit_size_, List.size_toArray, List.length_cons, List.length_nil, Nat.zero_add, Nat.reduceAdd] using c16))
     have H' := Aside0.mk H
     clear H
     have p429 : 0 ≤ (x9_1 : Int) := of_decide_eq_true zS_
     have q429 : x9_1 < (l0_0.length : Int) := of_decide_eq_true zS_
     obtain ⟨ad429, e429, hx429_0, hx429_1, hx429_2⟩ := at_T46 HR0_0.out x9_1 p429 q429
     cases e429
     replace hx429_0 := (HB.out.cell (World.block_lt_of_cell? w _ hx429_0)).trans hx429_0
     replace hx429_1 := (HB.out.cell (World.block_lt_of_cell? w _ hx429_1)).trans hx429_1
     replace hx429_2 := (HB.out.cell (World.block_lt_of_cell? w _ hx429_2)).trans hx429_2
     replace p429 := eq_true p429
     replace q429 := eq_true q429
     try go_wp2_with (first | (refine bx_ 5 #[.int .i64 0, .int .i64 0, .int .i64 0] 46 ?_; intro gb430 hg w17 hbox hb; have BK430 := Aside0.mk (hbox); have GW430 : Aside0 (w.heap.size ≤ gb430) := bs_ hg z15_4_; have GE430 := GW430; replace HB := Aside0.mk (below_step z15_4_ hb); have NB428_430 := nl_ BK428 z15_0_ hg; have NB430_428 := ns_ NB428_430; replace BK428 := bb_ BK428 z15_0_ hb; clear hb hbox hg; have hnb18 := NB430_428.out; have hnc18 := NB428_430.out; have hcz19_0 : w17.cell? ⟨gb430, 0, none⟩ = some (.int .i64 0) := (blk_cell BK430.out 0).trans rfl; have hcz19_1 : w17.cell? ⟨gb430, 1, none⟩ = some (.int .i64 0) := (blk_cell BK430.out 1).trans rfl; have hcz19_2 : w17.cell? ⟨gb430, 2, none⟩ = some (.int .i64 0) := (blk_cell BK430.out 2).trans rfl; have hfz19_0 := blk_frozen BK430.out 0; have hfz19_1 := blk_frozen BK430.out 1; have hfz19_2 := blk_frozen BK430.out 2))
     have n0_ : Aside0 ((((w17.setCell ⟨gb430, 0, none⟩ (.int .i64 ((rd_T46 l0_0 x9_1).f0))).setCell ⟨gb430, 1, none⟩ (.int .i64 ((rd_T46 l0_0 x9_1).f1))).setCell ⟨gb430, 2, none⟩ (.int .i64 ((rd_T46 l0_0 x9_1).f2))).heap[gb428]? = some (.cells #[.slice (some ad429) l0_0.length c0_0] 26 (0, 0))) := ⟨zs15_22⟩
     have n1_ : Aside0 ((((w17.setCell ⟨gb430, 0, none⟩ (.int .i64 ((rd_T46 l0_0 x9_1).f0))).setCell ⟨gb430, 1, none⟩ (.int .i64 ((rd_T46 l0_0 x9_1).f1))).setCell ⟨gb430, 2, none⟩ (.int .i64 ((rd_T46 l0_0 x9_1).f2))).heap[gb430]? = some (.cells #[.int .i64 ((rd_T46 l0_0 x9_1).f0), .int .i64 ((rd_T46 l0_0 x9_1).f1), .int .i64 ((rd_T46 l0_0 x9_1).f2)] 46 (0, 0))) := ⟨zs15_23⟩
     have n2_ : Aside0 (Below w.heap.size w (((w17.setCell ⟨gb430, 0, none⟩ (.int .i64 ((rd_T46 l0_0 x9_1).f0))).setCell ⟨gb430, 1, none⟩ (.int .i64 ((rd_T46 l0_0 x9_1).f1))).setCell ⟨gb430, 2, none⟩ (.int .i64 ((rd_T46 l0_0 x9_1).f2)))) := ⟨zs15_24⟩
     generalize (((w17.setCell ⟨gb430, 0, none⟩ (.int .i64 ((rd_T46 l0_0 x9_1).f0))).setCell ⟨gb430, 1, none⟩ (.int .i64 ((rd_T46 l0_0 x9_1).f1))).setCell ⟨gb430, 2, none⟩ (.int .i64 ((rd_T46 l0_0 x9_1).f2))) = w20 at n0_ n1_ n2_ ⊢
     have BK428 := n0_
     have BK430 := n1_
     have HB := n2_
     clear n0_ n1_ n2_
     replace BK428 := Aside0.mk (blk_drew BK428.out)
     replace BK430 := Aside0.mk (blk_drew BK430.out)
     replace HB := Aside0.mk (below_drew1 HB.out)
     refine start_ (n := 16) (S := fun w' => w'.cell? ⟨gb430, 0, none⟩ = some (.int .i64 ((rd_T46 l0_0 x9_1).f0)) ∧ w'.cell? ⟨gb430, 1, none⟩ = some (.int .i64 ((rd_T46 l0_0 x9_1).f1)) ∧ w'.cell? ⟨gb430, 2, none⟩ = some (.int .i64 ((rd_T46 l0_0 x9_1).f2))) (ds := []) #[false, false, false, false, false, false, false, false, false, false, false, false, false, false, false, false] (by kernel_rfl) rfl rfl ⟨(blk_cell BK430.out 0).trans rfl, (blk_cell BK430.out 1).trans rfl, (blk_cell BK430.out 2).trans rfl⟩ (fun hHeld => ?_); refine with_tabW spec_pzText.tab7 spec_pzText.bits7 (fun HT_ HW_ => ?_)
     generalize w20.drew = w21 at BK428 BK430 HB hHeld ⊢
     refine pq_ 0 18 ?_
     refine pq_ 1 19 ?_
     refine pq_ 5 23 ?_
     refine pq_ 10 28 ?_
     refine take_ (i := 2) (N := some 20) (v := ?_) (a' := ?_) #[true, true, true, false, false, true, false, false, false, false, true, false, false, false, false, false] rfl rfl (take_ofW HT_.out HW_.out (by kernel_rfl)) (fun _ _ _ h => h) (Or.inl ⟨by rfl, ?_⟩) hHeld ?_ ?_
     rotate_left
     · rintro w' ⟨s0, s1, s2⟩
       go_simp
       with_reducible rfl
     rotate_left
     · simp only [Act.put, List.setIfInBounds_toArray, List.set_cons_zero, List.set_cons_succ, i64_w, i32_w]
       rfl
     refine take_ (i := 6) (N := some 24) (v := ?_) (a' := ?_) #[true, true, true, false, false, true, true, false, false, false, true, false, false, false, false, false] rfl rfl (take_ofW HT_.out HW_.out (by kernel_rfl)) (fun _ _ _ h => h) (Or.inl ⟨by rfl, ?_⟩) hHeld ?_ ?_
     rotate_left
     · rintro w' ⟨s0, s1, s2⟩
       go_simp
       with_reducible rfl
     rotate_left
     · simp only [Act.put, List.setIfInBounds_toArray, List.set_cons_zero, List.set_cons_succ, i64_w, i32_w]
       rfl
     refine take_ (i := 11) (N := some 29) (v := ?_) (a' := ?_) #[true, true, true, false, false, true, true, false, false, false, true, true, false, false, false, false] rfl rfl (take_ofW HT_.out HW_.out (by kernel_rfl)) (fun _ _ _ h => h) (Or.inl ⟨by rfl, ?_⟩) hHeld ?_ ?_
     rotate_left
     · rintro w' ⟨s0, s1, s2⟩
       go_simp
       with_reducible rfl
     rotate_left
     · simp only [Act.put, List.setIfInBounds_toArray, List.set_cons_zero, List.set_cons_succ, i64_w, i32_w]
       rfl
     refine one_ (i := 3) (N := some 21) #[true, true, true, true, false, true, true, false, false, false, true, true, false, false, false, false] rfl rfl (one_of HT_.out (by kernel_rfl)) (by decide) (fun K hK => ?_)
     refine goes_ Tryz.func67 (by kernel_rfl) rfl #[.int .i64 ((rd_T46 l0_0 x9_1).f0)] (by rfl) rfl rfl z15_1_ ?_
     with_reducible refine (spec_l1Num.calls k1 ((rd_T46 l0_0 x9_1).f0) t431 _ A9.out).mono ?_
     rintro e w22 ⟨rfl, hb⟩
     refine ⟨_, rfl, ?_⟩
     replace BK428 := bb_ BK428 z15_0_ hb
     replace BK430 := bb_ BK430 z15_5_ hb
     replace HB := Aside0.mk (below_step z15_3_ hb)
     
     
     
     
     refine hK.out _ _ ⟨(blk_cell BK430.out 0).trans rfl, (blk_cell BK430.out 1).trans rfl, (blk_cell BK430.out 2).trans rfl⟩ (fun hHeld => ?_)
     clear hK K
     refine norm_ (a' := ?_) ?_ ?_
     rotate_left
     · show Act.put _ (some 21) _ = _
       simp only [Act.put, List.setIfInBounds_toArray, List.set_cons_zero, List.set_cons_succ, i64_w, i32_w]
       rfl
     refine pq_ 4 22 ?_
     refine one_ (i := 7) (N := some 25) #[true, true, true, true, true, true, true, true, false, false, true, true, false, false, false, false] rfl rfl (one_of HT_.out (by kernel_rfl)) (by decide) (fun K hK => ?_)
     refine goes_ Tryz.func67 (by kernel_rfl) rfl #[.int .i64 ((rd_T46 l0_0 x9_1).f1)] (by rfl) rfl rfl z15_1_ ?_
     with_reducible refine (spec_l1Num.calls k1 ((rd_T46 l0_0 x9_1).f1) t432 _ A11.out).mono ?_
     rintro e w23 ⟨rfl, hb⟩
     refine ⟨_, rfl, ?_⟩
     replace BK428 := bb_ BK428 z15_0_ hb
     replace BK430 := bb_ BK430 z15_5_ hb
     replace HB := Aside0.mk (below_step z15_3_ hb)
     
     
     
     
     refine hK.out _ _ ⟨(blk_cell BK430.out 0).trans rfl, (blk_cell BK430.out 1).trans rfl, (blk_cell BK430.out 2).trans rfl⟩ (fun hHeld => ?_)
     clear hK K
     refine norm_ (a' := ?_) ?_ ?_
     rotate_left
     · show Act.put _ (some 25) _ = _
       simp only [Act.put, List.setIfInBounds_toArray, List.set_cons_zero, List.set_cons_succ, i64_w, i32_w]
       rfl
     refine pq_ 8 26 ?_
     refine pq_ 9 27 ?_
     refine one_ (i := 12) (N := some 30) #[true, true, true, true, true, true, true, true, true, true, true, true, true, false, false, false] rfl rfl (one_of HT_.out (by kernel_rfl)) (by decide) (fun K hK => ?_)
     refine goes_ Tryz.func67 (by kernel_rfl) rfl #[.int .i64 ((rd_T46 l0_0 x9_1).f2)] (by rfl) rfl rfl z15_1_ ?_
     with_reducible refine (spec_l1Num.calls k1 ((rd_T46 l0_0 x9_1).f2) t433 _ A14.out).mono ?_
     rintro e w24 ⟨rfl, hb⟩
     refine ⟨_, rfl, ?_⟩
     replace BK428 := bb_ BK428 z15_0_ hb
     replace BK430 := bb_ BK430 z15_5_ hb
     replace HB := Aside0.mk (below_step z15_3_ hb)
     
     
     
     
     refine hK.out _ _ ⟨(blk_cell BK430.out 0).trans rfl, (blk_cell BK430.out 1).trans rfl, (blk_cell BK430.out 2).trans rfl⟩ (fun hHeld => ?_)
     clear hK K
     refine norm_ (a' := ?_) ?_ ?_
     rotate_left
     · show Act.put _ (some 30) _ = _
       simp only [Act.put, List.setIfInBounds_toArray, List.set_cons_zero, List.set_cons_succ, i64_w, i32_w]
       rfl
     refine pq_ 13 31 ?_
     refine pq_ 14 32 ?_
     refine pq_ 15 3 ?_
     refine done_ (done_of HT_.out (by kernel_rfl)) ?_
     try go_wp2
     go_roundg k1
     case measure => have := HK1.out; omega
     case rel => exact ⟨((x3_1 ++ (⟨#[44]⟩ : ByteArray)) ++ ((((t431 ++ (⟨#[46]⟩ : ByteArray)) ++ t432) ++ (⟨#[46]⟩ : ByteArray)) ++ t433)), (wrap64 (x9_1 + 1)), zV_, zV_, H', ⟨zs15_9⟩, ⟨b_ BK428.out⟩, ⟨zs15_24⟩⟩
   rw [if_neg c7] at H
   have c7b0 : decide (0 < x9_1) = false := decide_eq_false c7
   clear c7
   replace H := bd_ H; obtain ⟨t434, A25, H⟩ := H
   replace H := gd_ H; obtain ⟨c26, H⟩ := H
   have c26b0 := eq_true c26
   have c26b1 : decide (t434.size + 1 ≤ 9223372036854775807) = true := decide_eq_true c26
   try have c26b2 : (9223372036854775807 < t434.size + 1) = False := eq_false (Nat.not_lt.2 c26)
   replace H := bd_ H; obtain ⟨t435, A27, H⟩ := H
   replace H := gd_ H; obtain ⟨c28, H⟩ := H
   have c28b0 := eq_true c28
   have c28b1 : decide ((t434 ++ (⟨#[46]⟩ : ByteArray)).size + t435.size ≤ 9223372036854775807) = true := decide_eq_true c28
   try have c28b2 : (9223372036854775807 < (t434 ++ (⟨#[46]⟩ : ByteArray)).size + t435.size) = False := eq_false (Nat.not_lt.2 c28)
   try have c28b3 : (9223372036854775807 < t434.size + 1 + t435.size) = False := eq_false (Nat.not_lt.2 (by simpa only [ByteArray.size_append, lit_size_, List.size_toArray, List.length_cons, List.length_nil, Nat.zero_add, Nat.reduceAdd] using c28))
   replace H := gd_ H; obtain ⟨c29, H⟩ := H
   have c29b0 := eq_true c29
   have c29b1 : decide (((t434 ++ (⟨#[46]⟩ : ByteArray)) ++ t435).size + 1 ≤ 9223372036854775807) = true := decide_eq_true c29
   try have c29b2 : (9223372036854775807 < ((t434 ++ (⟨#[46]⟩ : ByteArray)) ++ t435).size + 1) = False := eq_false (Nat.not_lt.2 c29)
   try have c29b3 : (9223372036854775807 < t434.size + 1 + t435.size + 1) = False := eq_false (Nat.not_lt.2 (by simpa only [ByteArray.size_append, lit_size_, List.size_toArray, List.length_cons, List.length_nil, Nat.zero_add, Nat.reduceAdd] using c29))
   replace H := bd_ H; obtain ⟨t436, A30, H⟩ := H
   replace H := gd_ H; obtain ⟨c31, H⟩ := H
   have c31b0 := eq_true c31
   have c31b1 : decide ((((t434 ++ (⟨#[46]⟩ : ByteArray)) ++ t435) ++ (⟨#[46]⟩ : ByteArray)).size + t436.size ≤ 9223372036854775807) = true := decide_eq_true c31
   try have c31b2 : (9223372036854775807 < (((t434 ++ (⟨#[46]⟩ : ByteArray)) ++ t435) ++ (⟨#[46]⟩ : ByteArray)).size + t436.size) = False := eq_false (Nat.not_lt.2 c31)
   try have c31b3 : (9223372036854775807 < t434.size + 1 + t435.size + 1 + t436.size) = False := eq_false (Nat.not_lt.2 (by simpa only [ByteArray.size_append, lit_size_, List.size_toArray, List.length_cons, List.length_nil, Nat.zero_add, Nat.reduceAdd] using c31))
   replace H := gd_ H; obtain ⟨c32, H⟩ := H
   have c32b0 := eq_true c32
   have c32b1 : decide (x3_1.size + ((((t434 ++ (⟨#[46]⟩ : ByteArray)) ++ t435) ++ (⟨#[46]⟩ : ByteArray)) ++ t436).size ≤ 9223372036854775807) = true := decide_eq_true c32
   try have c32b2 : (9223372036854775807 < x3_1.size + ((((t434 ++ (⟨#[46]⟩ : ByteArray)) ++ t435) ++ (⟨#[46]⟩ : ByteArray)) ++ t436).size) = False := eq_false (Nat.not_lt.2 c32)
   try have c32b3 : (9223372036854775807 < x3_1.size + (t434.size + 1 + t435.size + 1 + t436.size)) = False := eq_false (Nat.not_lt.2 (by simpa only [ByteArray.size_append, lit_size_, List.size_toArray, List.length_cons, List.length_nil, Nat.zero_add, Nat.reduceAdd] using c32))
   have H' := Aside0.mk H
   clear H
   have p429 : 0 ≤ (x9_1 : Int) := of_decide_eq_true zS_
   have q429 : x9_1 < (l0_0.length : Int) := of_decide_eq_true zS_
   obtain ⟨ad429, e429, hx429_0, hx429_1, hx429_2⟩ := at_T46 HR0_0.out x9_1 p429 q429
   cases e429
   replace hx429_0 := (HB.out.cell (World.block_lt_of_cell? w _ hx429_0)).trans hx429_0
   replace hx429_1 := (HB.out.cell (World.block_lt_of_cell? w _ hx429_1)).trans hx429_1
   replace hx429_2 := (HB.out.cell (World.block_lt_of_cell? w _ hx429_2)).trans hx429_2
   replace p429 := eq_true p429
   replace q429 := eq_true q429
   try go_wp2_with (first | (refine bx_ 5 #[.int .i64 0, .int .i64 0, .int .i64 0] 46 ?_; intro gb430 hg w33 hbox hb; have BK430 := Aside0.mk (hbox); have GW430 : Aside0 (w.heap.size ≤ gb430) := bs_ hg z15_4_; have GE430 := GW430; replace HB := Aside0.mk (below_step z15_4_ hb); have NB428_430 := nl_ BK428 z15_0_ hg; have NB430_428 := ns_ NB428_430; replace BK428 := bb_ BK428 z15_0_ hb; clear hb hbox hg; have hnb34 := NB430_428.out; have hnc34 := NB428_430.out; have hcz35_0 : w33.cell? ⟨gb430, 0, none⟩ = some (.int .i64 0) := (blk_cell BK430.out 0).trans rfl; have hcz35_1 : w33.cell? ⟨gb430, 1, none⟩ = some (.int .i64 0) := (blk_cell BK430.out 1).trans rfl; have hcz35_2 : w33.cell? ⟨gb430, 2, none⟩ = some (.int .i64 0) := (blk_cell BK430.out 2).trans rfl; have hfz35_0 := blk_frozen BK430.out 0; have hfz35_1 := blk_frozen BK430.out 1; have hfz35_2 := blk_frozen BK430.out 2))
   have n0_ : Aside0 ((((w33.setCell ⟨gb430, 0, none⟩ (.int .i64 ((rd_T46 l0_0 x9_1).f0))).setCell ⟨gb430, 1, none⟩ (.int .i64 ((rd_T46 l0_0 x9_1).f1))).setCell ⟨gb430, 2, none⟩ (.int .i64 ((rd_T46 l0_0 x9_1).f2))).heap[gb428]? = some (.cells #[.slice (some ad429) l0_0.length c0_0] 26 (0, 0))) := ⟨zs15_22⟩
   have n1_ : Aside0 ((((w33.setCell ⟨gb430, 0, none⟩ (.int .i64 ((rd_T46 l0_0 x9_1).f0))).setCell ⟨gb430, 1, none⟩ (.int .i64 ((rd_T46 l0_0 x9_1).f1))).setCell ⟨gb430, 2, none⟩ (.int .i64 ((rd_T46 l0_0 x9_1).f2))).heap[gb430]? = some (.cells #[.int .i64 ((rd_T46 l0_0 x9_1).f0), .int .i64 ((rd_T46 l0_0 x9_1).f1), .int .i64 ((rd_T46 l0_0 x9_1).f2)] 46 (0, 0))) := ⟨zs15_23⟩
   have n2_ : Aside0 (Below w.heap.size w (((w33.setCell ⟨gb430, 0, none⟩ (.int .i64 ((rd_T46 l0_0 x9_1).f0))).setCell ⟨gb430, 1, none⟩ (.int .i64 ((rd_T46 l0_0 x9_1).f1))).setCell ⟨gb430, 2, none⟩ (.int .i64 ((rd_T46 l0_0 x9_1).f2)))) := ⟨zs15_24⟩
   generalize (((w33.setCell ⟨gb430, 0, none⟩ (.int .i64 ((rd_T46 l0_0 x9_1).f0))).setCell ⟨gb430, 1, none⟩ (.int .i64 ((rd_T46 l0_0 x9_1).f1))).setCell ⟨gb430, 2, none⟩ (.int .i64 ((rd_T46 l0_0 x9_1).f2))) = w36 at n0_ n1_ n2_ ⊢
   have BK428 := n0_
   have BK430 := n1_
   have HB := n2_
   clear n0_ n1_ n2_
   replace BK428 := Aside0.mk (blk_drew BK428.out)
   replace BK430 := Aside0.mk (blk_drew BK430.out)
   replace HB := Aside0.mk (below_drew1 HB.out)
   refine start_ (n := 16) (S := fun w' => w'.cell? ⟨gb430, 0, none⟩ = some (.int .i64 ((rd_T46 l0_0 x9_1).f0)) ∧ w'.cell? ⟨gb430, 1, none⟩ = some (.int .i64 ((rd_T46 l0_0 x9_1).f1)) ∧ w'.cell? ⟨gb430, 2, none⟩ = some (.int .i64 ((rd_T46 l0_0 x9_1).f2))) (ds := []) #[false, false, false, false, false, false, false, false, false, false, false, false, false, false, false, false] (by kernel_rfl) rfl rfl ⟨(blk_cell BK430.out 0).trans rfl, (blk_cell BK430.out 1).trans rfl, (blk_cell BK430.out 2).trans rfl⟩ (fun hHeld => ?_); refine with_tabW spec_pzText.tab7 spec_pzText.bits7 (fun HT_ HW_ => ?_)
   generalize w36.drew = w37 at BK428 BK430 HB hHeld ⊢
   refine pq_ 0 18 ?_
   refine pq_ 1 19 ?_
   refine pq_ 5 23 ?_
   refine pq_ 10 28 ?_
   refine take_ (i := 2) (N := some 20) (v := ?_) (a' := ?_) #[true, true, true, false, false, true, false, false, false, false, true, false, false, false, false, false] rfl rfl (take_ofW HT_.out HW_.out (by kernel_rfl)) (fun _ _ _ h => h) (Or.inl ⟨by rfl, ?_⟩) hHeld ?_ ?_
   rotate_left
   · rintro w' ⟨s0, s1, s2⟩
     go_simp
     with_reducible rfl
   rotate_left
   · simp only [Act.put, List.setIfInBounds_toArray, List.set_cons_zero, List.set_cons_succ, i64_w, i32_w]
     rfl
   refine take_ (i := 6) (N := some 24) (v := ?_) (a' := ?_) #[true, true, true, false, false, true, true, false, false, false, true, false, false, false, false, false] rfl rfl (take_ofW HT_.out HW_.out (by kernel_rfl)) (fun _ _ _ h => h) (Or.inl ⟨by rfl, ?_⟩) hHeld ?_ ?_
   rotate_left
   · rintro w' ⟨s0, s1, s2⟩
     go_simp
     with_reducible rfl
   rotate_left
   · simp only [Act.put, List.setIfInBounds_toArray, List.set_cons_zero, List.set_cons_succ, i64_w, i32_w]
     rfl
   refine take_ (i := 11) (N := some 29) (v := ?_) (a' := ?_) #[true, true, true, false, false, true, true, false, false, false, true, true, false, false, false, false] rfl rfl (take_ofW HT_.out HW_.out (by kernel_rfl)) (fun _ _ _ h => h) (Or.inl ⟨by rfl, ?_⟩) hHeld ?_ ?_
   rotate_left
   · rintro w' ⟨s0, s1, s2⟩
     go_simp
     with_reducible rfl
   rotate_left
   · simp only [Act.put, List.setIfInBounds_toArray, List.set_cons_zero, List.set_cons_succ, i64_w, i32_w]
     rfl
   refine one_ (i := 3) (N := some 21) #[true, true, true, true, false, true, true, false, false, false, true, true, false, false, false, false] rfl rfl (one_of HT_.out (by kernel_rfl)) (by decide) (fun K hK => ?_)
   refine goes_ Tryz.func67 (by kernel_rfl) rfl #[.int .i64 ((rd_T46 l0_0 x9_1).f0)] (by rfl) rfl rfl z15_1_ ?_
   with_reducible refine (spec_l1Num.calls k1 ((rd_T46 l0_0 x9_1).f0) t434 _ A25.out).mono ?_
   rintro e w38 ⟨rfl, hb⟩
   refine ⟨_, rfl, ?_⟩
   replace BK428 := bb_ BK428 z15_0_ hb
   replace BK430 := bb_ BK430 z15_5_ hb
   replace HB := Aside0.mk (below_step z15_3_ hb)
   
   
   
   
   refine hK.out _ _ ⟨(blk_cell BK430.out 0).trans rfl, (blk_cell BK430.out 1).trans rfl, (blk_cell BK430.out 2).trans rfl⟩ (fun hHeld => ?_)
   clear hK K
   refine norm_ (a' := ?_) ?_ ?_
   rotate_left
   · show Act.put _ (some 21) _ = _
     simp only [Act.put, List.setIfInBounds_toArray, List.set_cons_zero, List.set_cons_succ, i64_w, i32_w]
     rfl
   refine pq_ 4 22 ?_
   refine one_ (i := 7) (N := some 25) #[true, true, true, true, true, true, true, true, false, false, true, true, false, false, false, false] rfl rfl (one_of HT_.out (by kernel_rfl)) (by decide) (fun K hK => ?_)
   refine goes_ Tryz.func67 (by kernel_rfl) rfl #[.int .i64 ((rd_T46 l0_0 x9_1).f1)] (by rfl) rfl rfl z15_1_ ?_
   with_reducible refine (spec_l1Num.calls k1 ((rd_T46 l0_0 x9_1).f1) t435 _ A27.out).mono ?_
   rintro e w39 ⟨rfl, hb⟩
   refine ⟨_, rfl, ?_⟩
   replace BK428 := bb_ BK428 z15_0_ hb
   replace BK430 := bb_ BK430 z15_5_ hb
   replace HB := Aside0.mk (below_step z15_3_ hb)
   
   
   
   
   refine hK.out _ _ ⟨(blk_cell BK430.out 0).trans rfl, (blk_cell BK430.out 1).trans rfl, (blk_cell BK430.out 2).trans rfl⟩ (fun hHeld => ?_)
   clear hK K
   refine norm_ (a' := ?_) ?_ ?_
   rotate_left
   · show Act.put _ (some 25) _ = _
     simp only [Act.put, List.setIfInBounds_toArray, List.set_cons_zero, List.set_cons_succ, i64_w, i32_w]
     rfl
   refine pq_ 8 26 ?_
   refine pq_ 9 27 ?_
   refine one_ (i := 12) (N := some 30) #[true, true, true, true, true, true, true, true, true, true, true, true, true, false, false, false] rfl rfl (one_of HT_.out (by kernel_rfl)) (by decide) (fun K hK => ?_)
   refine goes_ Tryz.func67 (by kernel_rfl) rfl #[.int .i64 ((rd_T46 l0_0 x9_1).f2)] (by rfl) rfl rfl z15_1_ ?_
   with_reducible refine (spec_l1Num.calls k1 ((rd_T46 l0_0 x9_1).f2) t436 _ A30.out).mono ?_
   rintro e w40 ⟨rfl, hb⟩
   refine ⟨_, rfl, ?_⟩
   replace BK428 := bb_ BK428 z15_0_ hb
   replace BK430 := bb_ BK430 z15_5_ hb
   replace HB := Aside0.mk (below_step z15_3_ hb)
   
   
   
   
   refine hK.out _ _ ⟨(blk_cell BK430.out 0).trans rfl, (blk_cell BK430.out 1).trans rfl, (blk_cell BK430.out 2).trans rfl⟩ (fun hHeld => ?_)
   clear hK K
   refine norm_ (a' := ?_) ?_ ?_
   rotate_left
   · show Act.put _ (some 30) _ = _
     simp only [Act.put, List.setIfInBounds_toArray, List.set_cons_zero, List.set_cons_succ, i64_w, i32_w]
     rfl
   refine pq_ 13 31 ?_
   refine pq_ 14 32 ?_
   refine pq_ 15 3 ?_
   refine done_ (done_of HT_.out (by kernel_rfl)) ?_
   try go_wp2
   go_roundg k1
   case measure => have := HK1.out; omega
   case rel => exact ⟨(x3_1 ++ ((((t434 ++ (⟨#[46]⟩ : ByteArray)) ++ t435) ++ (⟨#[46]⟩ : ByteArray)) ++ t436)), (wrap64 (x9_1 + 1)), zV_, zV_, H', ⟨zs15_9⟩, ⟨b_ BK428.out⟩, ⟨zs15_24⟩⟩

/-! ### spec_PuzzleText: function 23 -/
def spec_PuzzleText.f (k : Nat) (l0_0 : List (S46)) : Option (ByteArray × Bool) := (spec_pzGood.f k l0_0).bind fun t438 => (if t438 = true then ((spec_pzText.f k l0_0).bind fun t439 => (some (t439, true))) else (some ((⟨#[]⟩ : ByteArray), false)))
theorem spec_PuzzleText.mono : ∀ a0 k, LeO (spec_PuzzleText.f k a0) (spec_PuzzleText.f (k + 1) a0) := by
 intro a0 k
 unfold spec_PuzzleText.f
 have m1_ := @spec_pzGood.mono
 have m2_ := @spec_pzText.mono
 exact zM_
theorem spec_PuzzleText.calls (k : Nat) (A0_0 : Option Addr) (c0_0 : Nat) (l0_0 : List (S46)) (r1 : ByteArray) (r2 : Bool) (w : World) (hr0_0 : Kd.C k46 w A0_0 l0_0.length l0_0) (hc0_0 : l0_0.length ≤ c0_0) (h : spec_PuzzleText.f k l0_0 = some (r1, r2)) :
 Calls Tryz.prog 23 #[.agg #[.slice A0_0 l0_0.length c0_0]] w fun e w' => e = .returned (.tuple #[.string r1, .bool r2]) ∧ Below w.heap.size w w' := by
 have hu26 := Tryz.underlying26
 have HR0_0 := Aside0.mk hr0_0
 have HC0_0 := Aside0.mk hc0_0
 clear hr0_0 hc0_0
 have HB := Aside0.mk (Below.refl w.heap.size w)
 unfold spec_PuzzleText.f at h
 have H := h
 clear h
 replace H := bd_ H; obtain ⟨t438, A2, H⟩ := H
 by_cases c3 : t438 = true
 · subst c3
   rw [if_pos rfl] at H
   replace H := bd_ H; obtain ⟨t439, A4, H⟩ := H
   simp only [Option.some.injEq, Prod.mk.injEq] at H
   obtain ⟨rfl, rfl⟩ := H
   go_enter Tryz.func23, Tryz.ntmps23
   go_wp2_with (first | (refine bx_ 1 #[.slice A0_0 l0_0.length c0_0] 26 ?_; intro gb437 hg w5 hbox hb; have BK437 := Aside0.mk (hbox); have GW437 : Aside0 (w.heap.size ≤ gb437) := bs_ hg zB_; have GE437 := GW437; replace HB := Aside0.mk (below_step zB_ hb); clear hb hbox hg; have hcz6_0 : w5.cell? ⟨gb437, 0, none⟩ = some (.slice A0_0 l0_0.length c0_0) := (blk_cell BK437.out 0).trans rfl; have hfz6_0 := blk_frozen BK437.out 0) | ((with_reducible refine gc_ 39 rfl ?_); refine gL_ 5 Tryz.func39 #[.agg #[.slice A0_0 l0_0.length c0_0]] ?_; (with_reducible refine (spec_pzGood.calls k _ _ l0_0 true _ ?side1 ?side2 A2.out).mono ?_); (case side1 => exact zc15_1_); (case side2 => exact HC0_0.out); rintro e w7 ⟨rfl, hb⟩; refine ⟨_, rfl, ?_⟩; replace BK437 := bb_ BK437 z15_9_ hb; replace HB := Aside0.mk (below_step z15_7_ hb); have hcz8_0 : w7.cell? ⟨gb437, 0, none⟩ = some (.slice A0_0 l0_0.length c0_0) := (blk_cell BK437.out 0).trans rfl; have hfz8_0 := blk_frozen BK437.out 0) | ((with_reducible refine gc_ 45 rfl ?_); refine gL_ 8 Tryz.func45 #[.agg #[.slice A0_0 l0_0.length c0_0]] ?_; (with_reducible refine (spec_pzText.calls k _ _ l0_0 t439 _ ?side1 ?side2 A4.out).mono ?_); (case side1 => exact zc15_1_); (case side2 => exact HC0_0.out); rintro e w9 ⟨rfl, hb⟩; refine ⟨_, rfl, ?_⟩; replace BK437 := bb_ BK437 z15_9_ hb; replace HB := Aside0.mk (below_step z15_7_ hb)))
   go_ret2
   exact ⟨zR_, zs15_25⟩
 replace H := bf_ c3 H; obtain ⟨rfl, H⟩ := H
 simp only [Option.some.injEq, Prod.mk.injEq] at H
 obtain ⟨rfl, rfl⟩ := H
 go_enter Tryz.func23, Tryz.ntmps23
 go_wp2_with (first | (refine bx_ 1 #[.slice A0_0 l0_0.length c0_0] 26 ?_; intro gb437 hg w10 hbox hb; have BK437 := Aside0.mk (hbox); have GW437 : Aside0 (w.heap.size ≤ gb437) := bs_ hg zB_; have GE437 := GW437; replace HB := Aside0.mk (below_step zB_ hb); clear hb hbox hg; have hcz11_0 : w10.cell? ⟨gb437, 0, none⟩ = some (.slice A0_0 l0_0.length c0_0) := (blk_cell BK437.out 0).trans rfl; have hfz11_0 := blk_frozen BK437.out 0) | ((with_reducible refine gc_ 39 rfl ?_); refine gL_ 5 Tryz.func39 #[.agg #[.slice A0_0 l0_0.length c0_0]] ?_; (with_reducible refine (spec_pzGood.calls k _ _ l0_0 false _ ?side1 ?side2 A2.out).mono ?_); (case side1 => exact zc15_1_); (case side2 => exact HC0_0.out); rintro e w12 ⟨rfl, hb⟩; refine ⟨_, rfl, ?_⟩; replace BK437 := bb_ BK437 z15_9_ hb; replace HB := Aside0.mk (below_step z15_7_ hb)))
 go_ret2
 exact ⟨zR_, zs15_25⟩

/-! ### laws_iTexts: function 24 -/
def laws_iTexts.l0 : Nat → List ByteArray → List ByteArray → Int → Int → Option (Bool)
 | 0, _, _, _, _ => none
 | k + 1, x0, x1, x12, x13 => if x13 < x12 then (if 0 ≤ x13 then (if x13 < (x0.length : Int) then (if x13 < (x1.length : Int) then (if (rdOf ByteArray.empty x0 x13).toList = (rdOf ByteArray.empty x1 x13).toList then (laws_iTexts.l0 k x0 x1 x12 (wrap64 (x13 + 1))) else (some false)) else (none)) else (none)) else (none)) else (some true)
def laws_iTexts.f (k : Nat) (l0 : List ByteArray) (l1 : List ByteArray) : Option (Bool) := if (l0.length : Int) = (l1.length : Int) then (laws_iTexts.l0 k l0 l1 (l0.length : Int) 0) else (some false)
theorem laws_iTexts.mono_l : ∀ k, (∀ y0 y1 y2 y3, LeO (laws_iTexts.l0 k y0 y1 y2 y3) (laws_iTexts.l0 (k + 1) y0 y1 y2 y3))
 | 0 => fun _ _ _ _ r h => by simp [laws_iTexts.l0] at h
 | k + 1 => by
  have ih0 := laws_iTexts.mono_l k
  intro y0 y1 y2 y3
  unfold laws_iTexts.l0
  have m1_ := @ih0
  exact zM_
theorem laws_iTexts.mono : ∀ a0 a1 k, LeO (laws_iTexts.f k a0 a1) (laws_iTexts.f (k + 1) a0 a1) := by
 intro a0 a1 k
 have ih0 := laws_iTexts.mono_l k
 unfold laws_iTexts.f
 have m1_ := @ih0
 exact zM_
theorem laws_iTexts.calls (k : Nat) (A0 : Option Addr) (c0 : Nat) (l0 : List ByteArray) (A1 : Option Addr) (c1 : Nat) (l1 : List ByteArray) (r : Bool) (w : World) (hr0 : Kd.C Kd.string w A0 l0.length l0) (hc0 : l0.length ≤ c0) (hr1 : Kd.C Kd.string w A1 l1.length l1) (hc1 : l1.length ≤ c1) (h : laws_iTexts.f k l0 l1 = some r) :
 Calls Tryz.prog 24 #[.slice A0 l0.length c0, .slice A1 l1.length c1] w fun e w' => e = .returned (.bool r) ∧ Drawn0 w w' := by
 have HR0 := Aside0.mk hr0
 have HC0 := Aside0.mk hc0
 clear hr0 hc0
 have HR1 := Aside0.mk hr1
 have HC1 := Aside0.mk hc1
 clear hr1 hc1
 unfold laws_iTexts.f at h
 have H := h
 clear h
 by_cases c3 : (l0.length : Int) = (l1.length : Int)
 rotate_left
 · obtain ⟨H, c3b0, c3b1⟩ := en_ c3 H
   have c3b2 : (l0.length == l1.length) = false := by first | simpa using c3 | (simp at c3 ⊢; omega)
   obtain rfl := Option.some.inj H
   go_enter Tryz.func24, Tryz.ntmps24
   go_wp2
   repeat (go_quiet (fail); try go_wp2)
   go_ret
   exact ⟨zs15_26, zs15_27⟩
 obtain ⟨H, c3b0, c3b1⟩ := ep_ c3 H
 have c3b2 : (l0.length == l1.length) = true := by first | simpa using c3 | (simp at c3 ⊢; omega)
 clear c3
 have H' := Aside0.mk H
 clear H
 go_enter Tryz.func24, Tryz.ntmps24
 go_wp2
 repeat (go_quiet (fail); try go_wp2)
 go_loopg [13] k (fun kq v13 w' => ∃ (x13_1 : Int), v13 = .int .i64 x13_1 ∧ Aside0 (laws_iTexts.l0 kq l0 l1 (l0.length : Int) x13_1 = some r) ∧ Aside0 (kq ≤ k) ∧ Drawn0 w w')
 case atStart => exact ⟨(0), zV_, H', ⟨Nat.le_refl _⟩, zs15_27⟩
 case round =>
  clear H'
  obtain ⟨x13_1, rfl, HA, HK1, ⟨m1, rfl⟩⟩ := hrel
  cases gk with
  | zero => exact absurd HA.out (by simp [laws_iTexts.l0])
  | succ k1 =>
   have H := HA.out
   clear HA
   simp only [laws_iTexts.l0] at H
   by_cases c4 : x13_1 < (l0.length : Int)
   rotate_left
   · rw [if_neg c4] at H
     have c4b0 := decide_eq_false c4
     clear c4
     obtain rfl := Option.some.inj H
     go_wp2
     repeat (go_quiet (fail); try go_wp2)
     go_ret
     exact ⟨zs15_26, zs15_27⟩
   rw [if_pos c4] at H
   have c4b0 := decide_eq_true c4
   clear c4
   replace H := gd_ H; obtain ⟨c5, H⟩ := H
   have c5b0 : decide (0 ≤ x13_1) = true := decide_eq_true c5
   clear c5
   replace H := gd_ H; obtain ⟨c6, H⟩ := H
   have c6b0 : decide (x13_1 < (l0.length : Int)) = true := decide_eq_true c6
   clear c6
   replace H := gd_ H; obtain ⟨c7, H⟩ := H
   have c7b0 : decide (x13_1 < (l1.length : Int)) = true := decide_eq_true c7
   clear c7
   by_cases c8 : (rdOf ByteArray.empty l0 x13_1).toList = (rdOf ByteArray.empty l1 x13_1).toList
   · rw [if_pos c8] at H
     have c8b0 : ((rdOf ByteArray.empty l0 x13_1).toList == (rdOf ByteArray.empty l1 x13_1).toList) = true := beq_iff_eq.mpr c8
     have c8b1 : ((rdOf ByteArray.empty l0 x13_1).toList != (rdOf ByteArray.empty l1 x13_1).toList) = false := bne_eq_false_iff_eq.mpr c8
     clear c8
     have H' := Aside0.mk H
     clear H
     have p440 : 0 ≤ (x13_1 : Int) := of_decide_eq_true zS_
     have q440 : x13_1 < (l0.length : Int) := of_decide_eq_true zS_
     obtain ⟨ad440, e440, hx440_0⟩ := Kd.at_string HR0.out x13_1 p440 q440
     cases e440
     replace p440 := eq_true p440
     replace q440 := eq_true q440
     have p441 : 0 ≤ (x13_1 : Int) := of_decide_eq_true zS_
     have q441 : x13_1 < (l1.length : Int) := of_decide_eq_true zS_
     obtain ⟨ad441, e441, hx441_0⟩ := Kd.at_string HR1.out x13_1 p441 q441
     cases e441
     replace p441 := eq_true p441
     replace q441 := eq_true q441
     go_wp2
     repeat (go_quiet (fail); try go_wp2)
     go_roundg k1
     case measure => have := HK1.out; omega
     case rel => exact ⟨(wrap64 (x13_1 + 1)), zV_, H', ⟨zs15_9⟩, zs15_27⟩
   rw [if_neg c8] at H
   have c8b0 : ((rdOf ByteArray.empty l0 x13_1).toList == (rdOf ByteArray.empty l1 x13_1).toList) = false := beq_eq_false_iff_ne.mpr c8
   have c8b1 : ((rdOf ByteArray.empty l0 x13_1).toList != (rdOf ByteArray.empty l1 x13_1).toList) = true := bne_iff_ne.mpr c8
   obtain rfl := Option.some.inj H
   have p440 : 0 ≤ (x13_1 : Int) := of_decide_eq_true zS_
   have q440 : x13_1 < (l0.length : Int) := of_decide_eq_true zS_
   obtain ⟨ad440, e440, hx440_0⟩ := Kd.at_string HR0.out x13_1 p440 q440
   cases e440
   replace p440 := eq_true p440
   replace q440 := eq_true q440
   have p441 : 0 ≤ (x13_1 : Int) := of_decide_eq_true zS_
   have q441 : x13_1 < (l1.length : Int) := of_decide_eq_true zS_
   obtain ⟨ad441, e441, hx441_0⟩ := Kd.at_string HR1.out x13_1 p441 q441
   cases e441
   replace p441 := eq_true p441
   replace q441 := eq_true q441
   go_wp2
   repeat (go_quiet (fail); try go_wp2)
   go_ret
   exact ⟨zs15_26, zs15_27⟩

end Go.Proofs.YtmfbjhkhgkphcaaGreatDoor.PFnTicketsGuessed

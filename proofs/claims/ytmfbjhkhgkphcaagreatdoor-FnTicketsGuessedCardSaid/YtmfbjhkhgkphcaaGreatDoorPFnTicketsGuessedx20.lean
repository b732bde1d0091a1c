-- Laid by this session's program gprint.py over the kit's print.
import Derived.Test.YtmfbjhkhgkphcaaGreatDoorSq
import Derived.Test.YtmfbjhkhgkphcaaGreatDoorZip
import Derived.Lib.OthersKept
import Derived.Laws.Runes
import Derived.Test.YtmfbjhkhgkphcaaGreatDoorExt
import Derived.Test.YtmfbjhkhgkphcaaGreatDoorPFnTicketsGuessedx6
import Derived.Test.YtmfbjhkhgkphcaaGreatDoorPFnTicketsGuessedx10
import Derived.Test.YtmfbjhkhgkphcaaGreatDoorPFnTicketsGuessedx15
import Derived.Test.YtmfbjhkhgkphcaaGreatDoorPFnTicketsGuessedx19
namespace Go.Proofs.YtmfbjhkhgkphcaaGreatDoor.PFnTicketsGuessed
open Go.RowKit Go.Proofs.YtmfbjhkhgkphcaaGreatDoorW.PrintWords Go.Proofs.YtmfbjhkhgkphcaaGreatDoorW.PrintLast Go.Proofs.YtmfbjhkhgkphcaaGreatDoorW.PrintMore
attribute [local go_sem] max2_int min2_int max_two min_two max_three min_three max_four min_four   -- for this text's walks alone
set_option linter.unusedVariables false
set_option linter.unusedSimpArgs false
set_option maxHeartbeats 64000000
set_option maxRecDepth 100000
theorem zs20_0 {p : Prop} (h : p := by refine rr_ ?_; exact Kd.R_mono HO536.out (fun _ hk => trivial)) : p := h
theorem zs20_1 {p : Prop} (h : p := by refine rr_ ?_; exact Kd.R_mono HO560.out (fun _ hk => hk.1.2)) : p := h
theorem zs20_2 {p : Prop} (h : p := by refine rr_ ?_; exact Kd.R_mono HO568.out (fun _ hk => hk.1.1.2)) : p := h
theorem zs20_3 {p : Prop} (h : p := by repeat (first | (with_reducible first | exact HB.out | apply below_alloc | apply pw_below_drewN | apply below_drew1 | refine below_set ?_ GE533.out) | exact HB.out)) : p := h
theorem zs20_4 {p : Prop} (h : p := by have := HJ23.out; first | omega | exact Nat.le_refl _) : p := h
theorem zs20_5 {p : Prop} (h : p := by have := HJ23.out; have := HJ143.out; have := HK3.out; have := HK4.out; omega) : p := h
theorem zs20_6 {p : Prop} (h : p := by repeat (first | exact HY395.out | (with_reducible first | exact Below.refl _ _ | apply below_alloc | apply pw_below_drewN | apply below_drew1))) : p := h
theorem zs20_7 {p : Prop} (h : p := by have := HJ23.out; have := HJ143.out; have := HK3.out; have := HK4.out; have := HK5.out; omega) : p := h
theorem zs20_8 {p : Prop} (h : p := by refine rr_ ?_; exact Kd.R_mono HO_534000.out (fun _ hk => trivial)) : p := h
theorem zs20_9 {p : Prop} (h : p := by repeat (first | (with_reducible first | exact HB.out | apply below_alloc | apply pw_below_drewN | apply below_drew1 | refine below_set ?_ GE638.out | refine below_set ?_ GE643.out) | exact HB.out)) : p := h
theorem zq20_0_ {p : Prop} (h : p := by refine rr_ ?_; exact (Kd.R_mono (Kd.R_far (p := ⟨gb638, 0, none⟩) (Kd.R_types HO636.out BK638.out (by decide)) (fun _ hk => hk.2) (.slice Ao273 t634.length co273)) (fun _ h_ => h_.1))) : p := h
theorem zq20_1_ {p : Prop} (h : p := by refine rr_ ?_; exact (Kd.R_mono (Kd.R_far (p := ⟨gb638, 0, none⟩) (Kd.R_types HO636.out BK638.out (by decide)) (fun _ hk => hk.2) (.slice Ao259 t634.length co259)) (fun _ h_ => h_.1))) : p := h
theorem zq20_2_ {p : Prop} (h : p := by refine rr_ ?_; exact (Kd.R_mono (Kd.R_far (p := ⟨gb610, 2, none⟩) (Kd.R_far (p := ⟨gb610, 1, none⟩) (Kd.R_far (p := ⟨gb610, 0, none⟩) (Kd.R_types HO_379.out BK610.out (by decide)) (fun _ hk => hk.2) (.int .i64 ((rd_T46 t530 x417_5).f0))) (fun _ hk => hk.2) (.int .i64 ((rd_T46 t530 x417_5).f1))) (fun _ hk => hk.2) (.int .i64 ((rd_T46 t530 x417_5).f2))) (fun _ h_ => h_.1))) : p := h
theorem zq20_3_ {p : Prop} (h : p := by refine rr_ ?_; exact (Kd.R_mono (Kd.R_far (p := ⟨gb610, 2, none⟩) (Kd.R_far (p := ⟨gb610, 1, none⟩) (Kd.R_far (p := ⟨gb610, 0, none⟩) (Kd.R_types HO_30.out BK610.out (by decide)) (fun _ hk => hk.2) (.int .i64 ((rd_T46 t530 x417_5).f0))) (fun _ hk => hk.2) (.int .i64 ((rd_T46 t530 x417_5).f1))) (fun _ hk => hk.2) (.int .i64 ((rd_T46 t530 x417_5).f2))) (fun _ h_ => h_.1))) : p := h
theorem zq20_4_ {p : Prop} (h : p := by refine rr_ ?_; exact (Kd.R_mono (Kd.R_far (p := ⟨gb610, 2, none⟩) (Kd.R_far (p := ⟨gb610, 1, none⟩) (Kd.R_far (p := ⟨gb610, 0, none⟩) (Kd.R_types HO_26.out BK610.out (by decide)) (fun _ hk => hk.2) (.int .i64 ((rd_T46 t530 x417_5).f0))) (fun _ hk => hk.2) (.int .i64 ((rd_T46 t530 x417_5).f1))) (fun _ hk => hk.2) (.int .i64 ((rd_T46 t530 x417_5).f2))) (fun _ h_ => h_.1))) : p := h
theorem zq20_5_ {p : Prop} (h : p := by refine rr_ ?_; exact (Kd.R_mono (Kd.R_far (p := ⟨gb630, 0, none⟩) (Kd.R_types HO_534000.out BK630.out (by decide)) (fun _ hk => hk.2) (.slice Ao242 t626.length co242)) (fun _ h_ => h_.1))) : p := h
theorem zq20_6_ {p : Prop} (h : p := by refine rr_ ?_; exact (Kd.R_mono (Kd.R_far (p := ⟨gb617, 0, none⟩) (Kd.R_types HO_534000.out BK617.out (by decide)) (fun _ hk => hk.2) (.slice Ao229 t613.length co229)) (fun _ h_ => h_.1))) : p := h
theorem zq20_7_ {p : Prop} (h : p := by refine rr_ ?_; exact (Kd.R_mono (Kd.R_far (p := ⟨gb643, 0, none⟩) (Kd.R_types HO641.out BK643.out (by decide)) (fun _ hk => hk.2) (.slice Ao277 t639.length co277)) (fun _ h_ => h_.1))) : p := h
theorem zq20_8_ {p : Prop} (h : p := by refine rr_ ?_; exact (Kd.R_mono (Kd.R_far (p := ⟨gb643, 0, none⟩) (Kd.R_types HO641.out BK643.out (by decide)) (fun _ hk => hk.2) (.slice Ao263 t639.length co263)) (fun _ h_ => h_.1))) : p := h
theorem zq20_9_ {p : Prop} (h : p := by refine rr_ ?_; exact (Kd.R_mono (Kd.R_far (p := ⟨gb643, 0, none⟩) (Kd.R_types HO636.out BK643.out (by decide)) (fun _ hk => hk.2) (.slice Ao277 t639.length co277)) (fun _ h_ => h_.1))) : p := h
theorem zq20_10_ {p : Prop} (h : p := by refine rr_ ?_; exact (Kd.R_mono (Kd.R_far (p := ⟨gb643, 0, none⟩) (Kd.R_types HO636.out BK643.out (by decide)) (fun _ hk => hk.2) (.slice Ao263 t639.length co263)) (fun _ h_ => h_.1))) : p := h
theorem zq20_11_ {p : Prop} (h : p := by refine rr_ ?_; exact (Kd.R_mono (Kd.R_far (p := ⟨gb630, 0, none⟩) (Kd.R_types HO_30.out BK630.out (by decide)) (fun _ hk => hk.2) (.slice Ao242 t626.length co242)) (fun _ h_ => h_.1))) : p := h
theorem zq20_12_ {p : Prop} (h : p := by refine rr_ ?_; exact (Kd.R_mono (Kd.R_far (p := ⟨gb630, 0, none⟩) (Kd.R_types HO_26.out BK630.out (by decide)) (fun _ hk => hk.2) (.slice Ao242 t626.length co242)) (fun _ h_ => h_.1))) : p := h
theorem zq20_13_ {p : Prop} (h : p := by refine rr_ ?_; exact (Kd.R_mono (Kd.R_far (p := ⟨gb630, 0, none⟩) (Kd.R_types HO628.out BK630.out (by decide)) (fun _ hk => hk.2) (.slice Ao242 t626.length co242)) (fun _ h_ => h_.1))) : p := h
theorem zq20_14_ {p : Prop} (h : p := by refine rr_ ?_; exact (Kd.R_mono (Kd.R_far (p := ⟨gb617, 0, none⟩) (Kd.R_types HO_30.out BK617.out (by decide)) (fun _ hk => hk.2) (.slice Ao229 t613.length co229)) (fun _ h_ => h_.1))) : p := h
theorem zq20_15_ {p : Prop} (h : p := by refine rr_ ?_; exact (Kd.R_mono (Kd.R_far (p := ⟨gb617, 0, none⟩) (Kd.R_types HO_26.out BK617.out (by decide)) (fun _ hk => hk.2) (.slice Ao229 t613.length co229)) (fun _ h_ => h_.1))) : p := h
theorem zq20_16_ {p : Prop} (h : p := by refine rr_ ?_; exact (Kd.R_mono (Kd.R_far (p := ⟨gb617, 0, none⟩) (Kd.R_types HO615.out BK617.out (by decide)) (fun _ hk => hk.2) (.slice Ao229 t613.length co229)) (fun _ h_ => h_.1))) : p := h
theorem zq20_17_ {p : Prop} (h : p := by refine rr_ ?_; exact (Kd.R_mono (Kd.R_far (p := ⟨gb533, 0, none⟩) (Kd.R_types HO532.out BK533.out (by decide)) (fun _ hk => hk.2) (.slice Ao27 t530.length co27)) (fun _ h_ => h_.1))) : p := h
theorem zq20_18_ {p : Prop} (h : p := by exact rr_ HO_415.out) : p := h
theorem zq20_19_ {p : Prop} (h : p := by exact rr_ HO_379.out) : p := h
theorem zq20_20_ {p : Prop} (h : p := by exact rr_ HO628.out) : p := h
theorem zq20_21_ {p : Prop} (h : p := by exact rr_ HO615.out) : p := h
theorem zc20_0_ {p : Prop} (h : p := by refine (Kd.R_reads' (e := 46) (base := w.heap.size) (ok := fun k_ => (True ∧ some k_ ≠ (.slice Ao242 t626.length co242 : Value).ownBlock)) (n := t530.length) (c := co27) ?_).2.2; exact zq20_5_) : p := h
theorem zc20_1_ {p : Prop} (h : p := by refine (Kd.R_reads' (e := 46) (base := w.heap.size) (ok := fun k_ => (True ∧ some k_ ≠ (.slice Ao263 t639.length co263 : Value).ownBlock)) (n := t634.length) (c := co259) ?_).2.2; exact zq20_10_) : p := h
theorem zc20_2_ {p : Prop} (h : p := by refine (Kd.R_reads' (e := 46) (base := w.heap.size) (ok := fun k_ => (True ∧ some k_ ≠ (.slice Ao259 t634.length co259 : Value).ownBlock)) (n := t639.length) (c := co263) ?_).2.2; exact zq20_8_) : p := h
theorem zc20_3_ {p : Prop} (h : p := by refine (Kd.R_reads' (e := 46) (base := w.heap.size) (ok := fun k_ => (True ∧ some k_ ≠ (.slice Ao277 t639.length co277 : Value).ownBlock)) (n := t634.length) (c := co273) ?_).2.2; exact zq20_9_) : p := h
theorem zc20_4_ {p : Prop} (h : p := by refine (Kd.R_reads' (e := 46) (base := w.heap.size) (ok := fun k_ => (True ∧ some k_ ≠ (.slice Ao273 t634.length co273 : Value).ownBlock)) (n := t639.length) (c := co277) ?_).2.2; exact zq20_7_) : p := h
theorem zc20_5_ {p : Prop} (h : p := by refine (Kd.R_reads' (e := 46) (base := w.heap.size) (ok := fun k_ => (True ∧ some k_ ≠ (.slice Ao27 t530.length co27 : Value).ownBlock)) (n := t613.length) (c := co229) ?_).2.2; exact zq20_16_) : p := h
theorem zc20_6_ {p : Prop} (h : p := by refine (Kd.R_reads' (e := 46) (base := w.heap.size) (ok := fun k_ => (True ∧ some k_ ≠ (.slice Ao27 t530.length co27 : Value).ownBlock)) (n := t626.length) (c := co242) ?_).2.2; exact zq20_13_) : p := h
theorem zc20_7_ {p : Prop} (h : p := by refine (Kd.R_reads' (e := 46) (base := w.heap.size) (ok := fun k_ => True) (n := t530.length) (c := co27) ?_).2.2; exact zq20_17_) : p := h
theorem zc20_8_ {p : Prop} (h : p := by repeat (first | exact (Kd.R_reads' HO_534000.out).2.2 | (with_reducible refine Kd.C_alloc ?_ _) | (with_reducible refine Kd.C_drewN ?_ _) | (with_reducible refine Kd.C_drew ?_))) : p := h
theorem zc20_9_ {p : Prop} (h : p := by repeat (first | exact (Kd.R_reads' HO532.out).2.2 | (with_reducible refine Kd.C_alloc ?_ _) | (with_reducible refine Kd.C_drewN ?_ _) | (with_reducible refine Kd.C_drew ?_))) : p := h
theorem zc20_10_ {p : Prop} (h : p := by repeat (first | exact (Kd.R_reads' HO_26.out).2.2 | (with_reducible refine Kd.C_alloc ?_ _) | (with_reducible refine Kd.C_drewN ?_ _) | (with_reducible refine Kd.C_drew ?_))) : p := h
theorem zc20_11_ {p : Prop} (h : p := by repeat (first | exact (Kd.C_below HR1.out HB.out) | (with_reducible refine Kd.C_alloc ?_ _) | (with_reducible refine Kd.C_drewN ?_ _) | (with_reducible refine Kd.C_drew ?_))) : p := h
theorem zc20_12_ {p : Prop} (h : p := by repeat (first | exact (Kd.R_reads' HO636.out).2.2 | (with_reducible refine Kd.C_alloc ?_ _) | (with_reducible refine Kd.C_drewN ?_ _) | (with_reducible refine Kd.C_drew ?_))) : p := h
theorem zc20_13_ {p : Prop} (h : p := by repeat (first | exact (Kd.R_reads' HO_6.out).2.2 | (with_reducible refine Kd.C_alloc ?_ _) | (with_reducible refine Kd.C_drewN ?_ _) | (with_reducible refine Kd.C_drew ?_))) : p := h
theorem zc20_14_ {p : Prop} (h : p := by repeat (first | exact HR0.out | (with_reducible refine Kd.C_alloc ?_ _) | (with_reducible refine Kd.C_drewN ?_ _) | (with_reducible refine Kd.C_drew ?_))) : p := h
theorem zc20_15_ {p : Prop} (h : p := by repeat (first | exact HR1.out | (with_reducible refine Kd.C_alloc ?_ _) | (with_reducible refine Kd.C_drewN ?_ _) | (with_reducible refine Kd.C_drew ?_))) : p := h
theorem zc20_16_ {p : Prop} (h : p := by exact (Kd.C_below (Kd.R_reads' HO532.out).2.2 xx.h)) : p := h
theorem zc20_17_ {p : Prop} (h : p := by exact ((Kd.R_reads' HO532.out).2.1)) : p := h
theorem zc20_18_ {p : Prop} (h : p := by exact (Kd.R_reads' HO532.out).2.1) : p := h
theorem zc20_19_ {p : Prop} (h : p := by exact (Kd.R_reads' HO636.out).2.1) : p := h
theorem undef_bool_ {b : Bool} (h : some undef = some (Value.bool b)) : False := by cases h
theorem dead2_ {r : Bool} {P : Prop} (H : some false = some r) (h : Aside0 (r = true)) : P := Bool.noConfusion ((Option.some.inj H).trans h.out)
theorem z20_0_ {p : Prop} (h : p := by repeat (first | (with_reducible first | exact HB.out | apply below_alloc | apply pw_below_drewN | apply below_drew1 | refine below_set ?_ GE533.out) | exact HB.out)) : p := h
theorem z20_1_ {p : Prop} (h : p := by exact b_ BK533.out) : p := h
theorem z20_2_ {p : Prop} (h : p := by exact rr_ HO532.out) : p := h
theorem z20_3_ {p : Prop} (h : p := by exact rr_ HO536.out) : p := h
theorem z20_4_ {p : Prop} (h : p := by exact rr_ HO540.out) : p := h
theorem z20_6_ {p : Prop} (h : p := by exact rr_ HO560.out) : p := h
theorem z20_7_ {p : Prop} (h : p := by exact rr_ HO564.out) : p := h
theorem z20_8_ {p : Prop} (h : p := by repeat (first | (with_reducible first | exact HB.out | apply below_alloc | apply pw_below_drewN | apply below_drew1 | refine below_set ?_ GE638.out) | exact HB.out)) : p := h
theorem z20_9_ {p : Prop} (h : p := by exact rr_ HO568.out) : p := h
theorem z20_10_ {p : Prop} (h : p := by exact rr_ HO572.out) : p := h
theorem z20_12_ {p : Prop} (h : p := by exact b_ BK638.out) : p := h
theorem z20_13_ {p : Prop} (h : p := by exact rr_ HO_534000.out) : p := h
theorem z20_14_ {p : Prop} (h : p := by refine b_ ?_; refine blk_put (cs := #[.int .i64 ((rd_T46 t530 x417_5).f0), .int .i64 ((rd_T46 t530 x417_5).f1), .int .i64 0]) ?_ 2 _ rfl; refine b_ ?_; refine blk_put (cs := #[.int .i64 ((rd_T46 t530 x417_5).f0), .int .i64 0, .int .i64 0]) ?_ 1 _ rfl; refine b_ ?_; refine blk_put (cs := #[.int .i64 0, .int .i64 0, .int .i64 0]) ?_ 0 _ rfl; exact b_ BK610.out) : p := h
theorem z20_15_ {p : Prop} (h : p := by repeat (first | (with_reducible first | exact HB.out | apply below_alloc | apply pw_below_drewN | apply below_drew1 | refine below_set ?_ GE638.out | refine below_set ?_ GE643.out) | exact HB.out)) : p := h
theorem z20_16_ {p : Prop} (h : p := by refine b_ ?_; refine blk_put (cs := #[.slice none 0 0]) ?_ 0 _ rfl; exact b_ BK638.out) : p := h
theorem z20_17_ {p : Prop} (h : p := by refine b_ ?_; refine blk_put (cs := #[.slice none 0 0]) ?_ 0 _ rfl; exact b_ BK643.out) : p := h
theorem z20_18_ {p : Prop} (h : p := by exact rr_ HO_26.out) : p := h
theorem z20_19_ {p : Prop} (h : p := by exact rr_ HO_30.out) : p := h
theorem z20_20_ {p : Prop} (h : p := by exact rr_ HO636.out) : p := h
theorem z20_21_ {p : Prop} (h : p := by refine b_ ?_; refine blk_far ?_ NB533_610.out _; refine b_ ?_; refine blk_far ?_ NB533_610.out _; refine b_ ?_; refine blk_far ?_ NB533_610.out _; exact b_ BK533.out) : p := h
theorem z20_22_ {p : Prop} (h : p := by refine b_ ?_; refine blk_far ?_ NB638_643.out _; exact b_ BK638.out) : p := h
theorem z20_23_ {p : Prop} (h : p := by refine rr_ ?_; exact (Kd.R_mono (Kd.R_far (p := ⟨gb610, 2, none⟩) (Kd.R_far (p := ⟨gb610, 1, none⟩) (Kd.R_far (p := ⟨gb610, 0, none⟩) (Kd.R_mono HO_534000.out (fun k_ hk => (⟨hk, hk.2⟩ : _ ∧ k_ ≠ gb610))) (fun _ hk => hk.2) (.int .i64 ((rd_T46 t530 x417_5).f0))) (fun _ hk => hk.2) (.int .i64 ((rd_T46 t530 x417_5).f1))) (fun _ hk => hk.2) (.int .i64 ((rd_T46 t530 x417_5).f2))) (fun _ h_ => h_.1))) : p := h
theorem z20_25_ {p : Prop} (h : p := by refine rr_ ?_; exact (Kd.R_mono (Kd.R_far (p := ⟨gb610, 2, none⟩) (Kd.R_far (p := ⟨gb610, 1, none⟩) (Kd.R_far (p := ⟨gb610, 0, none⟩) (Kd.R_mono HO_415.out (fun k_ hk => (⟨hk, hk.2⟩ : _ ∧ k_ ≠ gb610))) (fun _ hk => hk.2) (.int .i64 ((rd_T46 t530 x417_5).f0))) (fun _ hk => hk.2) (.int .i64 ((rd_T46 t530 x417_5).f1))) (fun _ hk => hk.2) (.int .i64 ((rd_T46 t530 x417_5).f2))) (fun _ h_ => h_.1))) : p := h
theorem z20_26_ {p : Prop} (h : p := by exact rr_ HO641.out) : p := h
theorem z20_27_ {p : Prop} (h : p := by refine b_ ?_; refine blk_put (cs := #[.slice none 0 0]) ?_ 0 _ rfl; exact b_ BK533.out) : p := h
theorem z20_28_ {p : Prop} (h : p := by refine b_ ?_; refine blk_put (cs := #[.slice none 0 0]) ?_ 0 _ rfl; exact b_ BK617.out) : p := h
theorem z20_29_ {p : Prop} (h : p := by refine b_ ?_; refine blk_put (cs := #[.slice none 0 0]) ?_ 0 _ rfl; exact b_ BK630.out) : p := h
theorem z20_30_ {p : Prop} (h : p := by refine b_ ?_; refine blk_far ?_ NB533_617.out _; exact b_ BK533.out) : p := h
theorem z20_31_ {p : Prop} (h : p := by refine b_ ?_; refine blk_far ?_ NB533_630.out _; exact b_ BK533.out) : p := h

/-! ### laws_FnTicketsGuessed: function 3 -/
theorem byte_ (s : ByteArray) (i : Nat) (h : i < s.size) : bt s (i : Int) = ((s[i]'h).toNat : Int) := by
  unfold bt
  rw [dif_pos (by rw [Int.toNat_natCast]; exact h)]
  simp only [Int.toNat_natCast]
theorem wrapn_ (n : Nat) (h : n < 4611686018427387904) : wrap64 ((n : Int) + 1) = ((n + 1 : Nat) : Int) := by simp [wrap64]; omega
mutual
def laws_FnTicketsGuessed.j0 : Nat → List Int → List ByteArray → Bool → Int → ByteArray → Bool → ByteArray → Bool → List Int → List Int → Int → ByteArray → Bool → List (S46) → Option (Bool)
 | 0, _, _, _, _, _, _, _, _, _, _, _, _, _, _ => none
 | k + 1, x1, x6, x7, x10, x14, x15, x18, x22, x26, x30, x34, x38, x311, x534000 => if x311 = true then (some false) else (if x7 = true then (if (x6.length : Int) = x10 then ((laws_iRisen.f k x6).bind fun t600 => (if t600 = true then (if x15 = true then (if 0 < (x6.length : Int) then (if x14.toList = (rdOf ByteArray.empty x6 0).toList then (if (x22 != (x10 == 1)) = true then (laws_FnTicketsGuessed.j1 k x1 x6 x10 x18 x26 x30 x34 x38 true x534000) else (if (x30.length : Int) = (wrap64 ((x534000.length : Int) + 1)) then (if 0 < (x30.length : Int) then (if (rd x30 0) = 1296 then (if 0 ≤ (x534000.length : Int) then (if (x534000.length : Int) < (x30.length : Int) then (if (rd x30 (x534000.length : Int)) = x10 then (if (x18.size : Int) = 4 then (if x22 = true then (laws_FnTicketsGuessed.j1 k x1 x6 x10 x18 x26 x30 x34 x38 (x18.toList != x14.toList) x534000) else (laws_FnTicketsGuessed.j1 k x1 x6 x10 x18 x26 x30 x34 x38 false x534000)) else (laws_FnTicketsGuessed.j1 k x1 x6 x10 x18 x26 x30 x34 x38 true x534000)) else (laws_FnTicketsGuessed.j1 k x1 x6 x10 x18 x26 x30 x34 x38 true x534000)) else (none)) else (none)) else (laws_FnTicketsGuessed.j1 k x1 x6 x10 x18 x26 x30 x34 x38 true x534000)) else (none)) else (laws_FnTicketsGuessed.j1 k x1 x6 x10 x18 x26 x30 x34 x38 true x534000))) else (laws_FnTicketsGuessed.j1 k x1 x6 x10 x18 x26 x30 x34 x38 true x534000)) else (none)) else (if (x22 != (x10 == 1)) = true then (laws_FnTicketsGuessed.j1 k x1 x6 x10 x18 x26 x30 x34 x38 true x534000) else (if (x30.length : Int) = (wrap64 ((x534000.length : Int) + 1)) then (if 0 < (x30.length : Int) then (if (rd x30 0) = 1296 then (if 0 ≤ (x534000.length : Int) then (if (x534000.length : Int) < (x30.length : Int) then (if (rd x30 (x534000.length : Int)) = x10 then (if x22 = true then (laws_FnTicketsGuessed.j1 k x1 x6 x10 x18 x26 x30 x34 x38 (x18.toList != x14.toList) x534000) else (laws_FnTicketsGuessed.j1 k x1 x6 x10 x18 x26 x30 x34 x38 false x534000)) else (laws_FnTicketsGuessed.j1 k x1 x6 x10 x18 x26 x30 x34 x38 true x534000)) else (none)) else (none)) else (laws_FnTicketsGuessed.j1 k x1 x6 x10 x18 x26 x30 x34 x38 true x534000)) else (none)) else (laws_FnTicketsGuessed.j1 k x1 x6 x10 x18 x26 x30 x34 x38 true x534000)))) else (laws_FnTicketsGuessed.j1 k x1 x6 x10 x18 x26 x30 x34 x38 true x534000))) else (laws_FnTicketsGuessed.j1 k x1 x6 x10 x18 x26 x30 x34 x38 true x534000)) else (laws_FnTicketsGuessed.j6 k x1))
def laws_FnTicketsGuessed.j6 : Nat → List Int → Option (Bool)
 | 0, _ => none
 | k + 1, x1 => (spec_DrawParsePuzzle.f k x1).bind fun t633 => ((impl_ParsePuzzle.f k t633).bind fun bt634 => ((spec_ParsePuzzle.f k t633).bind fun bt639 => (if (bt634.2 != bt639.2) = true then (some false) else ((laws_iPuzzle.f k bt634.1 bt639.1).bind fun t645 => (if t645 = true then (if bt634.2 = true then ((impl_PuzzleText.f k bt634.1).bind fun bt646 => (if bt646.2 = true then (some (bt646.1.toList == t633.toList)) else (some false))) else (some true)) else (some false))))))
def laws_FnTicketsGuessed.j1 : Nat → List Int → List ByteArray → Int → ByteArray → List Int → List Int → Int → ByteArray → Bool → List (S46) → Option (Bool)
 | 0, _, _, _, _, _, _, _, _, _, _ => none
 | k + 1, x1, x6, x10, x18, x26, x30, x34, x38, x378, x534000 => if x378 = true then (some false) else (laws_FnTicketsGuessed.l0 k x1 x10 x18 x26 x30 x34 x38 x6 (x6.length : Int) 0 x534000)
def laws_FnTicketsGuessed.l0 : Nat → List Int → Int → ByteArray → List Int → List Int → Int → ByteArray → List ByteArray → Int → Int → List (S46) → Option (Bool)
 | 0, _, _, _, _, _, _, _, _, _, _, _ => none
 | k + 1, x1, x10, x18, x26, x30, x34, x38, x379, x380, x381, x534000 => if x381 < x380 then (if 0 ≤ x381 then (if x381 < (x379.length : Int) then (if ((rdOf ByteArray.empty x379 x381).size : Int) = 4 then ((impl_IsTicket.f k (rdOf ByteArray.empty x379 x381)).bind fun t608 => (if t608 = true then (laws_FnTicketsGuessed.l1 k x1 x10 x18 x26 x30 x34 x38 x381 (rdOf ByteArray.empty x379 x381) x379 x380 x381 (rdOf ByteArray.empty x379 x381) 0 x534000) else (some false))) else (some false)) else (none)) else (none)) else (laws_FnTicketsGuessed.l3 k x1 x10 x26 x30 x34 x38 (x534000.length : Int) 0 x534000)
def laws_FnTicketsGuessed.l1 : Nat → List Int → Int → ByteArray → List Int → List Int → Int → ByteArray → Int → ByteArray → List ByteArray → Int → Int → ByteArray → Int → List (S46) → Option (Bool)
 | 0, _, _, _, _, _, _, _, _, _, _, _, _, _, _, _ => none
 | k + 1, x1, x10, x18, x26, x30, x34, x38, x42, x43, x379, x380, x381, x394, x395, x534000 => if x395 < (x394.size : Int) then (if 0 ≤ x395 then (if bt x394 x395 < 128 ∧ x395 < 4611686018427387904 then (if x395 < (x18.size : Int) then (if (bt x18 x395) = 63 then (laws_FnTicketsGuessed.l1 k x1 x10 x18 x26 x30 x34 x38 x42 x43 x379 x380 x381 x394 (wrap64 (x395 + 1)) x534000) else (if x395 < (x43.size : Int) then (if (bt x18 x395) = (bt x43 x395) then (laws_FnTicketsGuessed.l1 k x1 x10 x18 x26 x30 x34 x38 x42 x43 x379 x380 x381 x394 (wrap64 (x395 + 1)) x534000) else (some false)) else (none))) else (none)) else (none)) else (none)) else (if x42 > 30 then (laws_FnTicketsGuessed.l0 k x1 x10 x18 x26 x30 x34 x38 x379 x380 (wrap64 (x381 + 1)) x534000) else (laws_FnTicketsGuessed.l2 k x1 x10 x18 x26 x30 x34 x38 x43 x379 x380 x381 x534000 (x534000.length : Int) 0 x534000))
def laws_FnTicketsGuessed.l2 : Nat → List Int → Int → ByteArray → List Int → List Int → Int → ByteArray → ByteArray → List ByteArray → Int → Int → List (S46) → Int → Int → List (S46) → Option (Bool)
 | 0, _, _, _, _, _, _, _, _, _, _, _, _, _, _, _ => none
 | k + 1, x1, x10, x18, x26, x30, x34, x38, x43, x379, x380, x381, x415, x416, x417, x534000 => if x417 < x416 then (if 0 ≤ x417 then (if x417 < (x415.length : Int) then ((impl_DoesFit.f k ((rd_T46 x415 x417).f0) ((rd_T46 x415 x417).f1) ((rd_T46 x415 x417).f2) x43).bind fun bt611 => (if bt611.2 = true then (if bt611.1 = true then (laws_FnTicketsGuessed.l2 k x1 x10 x18 x26 x30 x34 x38 x43 x379 x380 x381 x415 x416 (wrap64 (x417 + 1)) x534000) else (some false)) else (some false))) else (none)) else (none)) else (laws_FnTicketsGuessed.l0 k x1 x10 x18 x26 x30 x34 x38 x379 x380 (wrap64 (x381 + 1)) x534000)
def laws_FnTicketsGuessed.l3 : Nat → List Int → Int → List Int → List Int → Int → ByteArray → Int → Int → List (S46) → Option (Bool)
 | 0, _, _, _, _, _, _, _, _, _ => none
 | k + 1, x1, x10, x26, x30, x34, x38, x437, x438, x534000 => if x438 < x437 then ((impl_DropClue.f k x534000 x438).bind fun bt613 => ((impl_CountSolutions.f k bt613.1).bind fun bt618 => (if bt613.2 = true then (if bt618.2 = true then ((laws_iHas.f k x26 x438).bind fun t623 => (if (t623 != (bt618.1 == x10)) = true then (some false) else (if 0 ≤ (wrap64 (x438 + 1)) then (if (wrap64 (x438 + 1)) < (x30.length : Int) then (if 0 ≤ x438 then (if x438 < (x30.length : Int) then (if (rd x30 (wrap64 (x438 + 1))) > (rd x30 x438) then (some false) else (if x34 < 0 then (some false) else (if x34 ≥ (x534000.length : Int) then (some false) else (laws_FnTicketsGuessed.l3 k x1 x10 x26 x30 x34 x38 x437 (wrap64 (x438 + 1)) x534000)))) else (none)) else (none)) else (none)) else (none)))) else (some false)) else (some false)))) else ((impl_ParsePuzzle.f k x38).bind fun bt626 => (if bt626.2 = true then ((laws_iPuzzle.f k bt626.1 x534000).bind fun t632 => (if t632 = true then (laws_FnTicketsGuessed.j6 k x1) else (some false))) else (some false)))
end
def laws_FnTicketsGuessed.f (k : Nat) (l0 : List Int) (l1 : List Int) : Option (Bool) := (laws_big.f l0 l1).bind fun t529 => (if t529 = true then (some true) else ((spec_DrawSolutions.f k l0).bind fun t530 => ((impl_Solutions.f k t530).bind fun bt534 => ((spec_Solutions.f k t530).bind fun bt538 => ((impl_CountSolutions.f k t530).bind fun bt542 => ((spec_CountSolutions.f k t530).bind fun bt544 => ((impl_FirstSolution.f k t530).bind fun bt546 => ((spec_FirstSolution.f k t530).bind fun bt548 => ((impl_SureDigits.f k t530).bind fun bt550 => ((spec_SureDigits.f k t530).bind fun bt552 => ((impl_IsSolved.f k t530).bind fun bt554 => ((spec_IsSolved.f k t530).bind fun bt556 => ((impl_NeedlessClues.f k t530).bind fun bt558 => ((spec_NeedlessClues.f k t530).bind fun bt562 => ((impl_LeftByClues.f k t530).bind fun bt566 => ((spec_LeftByClues.f k t530).bind fun bt570 => ((impl_BestClue.f k t530).bind fun bt574 => ((spec_BestClue.f k t530).bind fun bt576 => ((impl_PuzzleText.f k t530).bind fun bt578 => ((spec_PuzzleText.f k t530).bind fun bt580 => (if (bt534.2 != bt538.2) = true then (laws_FnTicketsGuessed.j0 k l1 bt534.1 bt534.2 bt542.1 bt546.1 bt546.2 bt550.1 bt554.1 bt558.1 bt566.1 bt574.1 bt578.1 true t530) else ((laws_iTexts.f k bt534.1 bt538.1).bind fun t588 => (if t588 = true then (if (bt542.2 != bt544.2) = true then (laws_FnTicketsGuessed.j0 k l1 bt534.1 bt534.2 bt542.1 bt546.1 bt546.2 bt550.1 bt554.1 bt558.1 bt566.1 bt574.1 bt578.1 true t530) else (if bt542.1 = bt544.1 then (if (bt546.2 != bt548.2) = true then (laws_FnTicketsGuessed.j0 k l1 bt534.1 bt534.2 bt542.1 bt546.1 bt546.2 bt550.1 bt554.1 bt558.1 bt566.1 bt574.1 bt578.1 true t530) else (if bt546.1.toList = bt548.1.toList then (if (bt550.2 != bt552.2) = true then (laws_FnTicketsGuessed.j0 k l1 bt534.1 bt534.2 bt542.1 bt546.1 bt546.2 bt550.1 bt554.1 bt558.1 bt566.1 bt574.1 bt578.1 true t530) else (if bt550.1.toList = bt552.1.toList then (if (bt554.2 != bt556.2) = true then (laws_FnTicketsGuessed.j0 k l1 bt534.1 bt534.2 bt542.1 bt546.1 bt546.2 bt550.1 bt554.1 bt558.1 bt566.1 bt574.1 bt578.1 true t530) else (if (bt554.1 != bt556.1) = true then (laws_FnTicketsGuessed.j0 k l1 bt534.1 bt534.2 bt542.1 bt546.1 bt546.2 bt550.1 bt554.1 bt558.1 bt566.1 bt574.1 bt578.1 true t530) else (if (bt558.2 != bt562.2) = true then (laws_FnTicketsGuessed.j0 k l1 bt534.1 bt534.2 bt542.1 bt546.1 bt546.2 bt550.1 bt554.1 bt558.1 bt566.1 bt574.1 bt578.1 true t530) else ((laws_iSame.f k bt558.1 bt562.1).bind fun t589 => (if t589 = true then (if (bt566.2 != bt570.2) = true then (laws_FnTicketsGuessed.j0 k l1 bt534.1 bt534.2 bt542.1 bt546.1 bt546.2 bt550.1 bt554.1 bt558.1 bt566.1 bt574.1 bt578.1 true t530) else ((laws_iSame.f k bt566.1 bt570.1).bind fun t590 => (if t590 = true then (if (bt574.2 != bt576.2) = true then (laws_FnTicketsGuessed.j0 k l1 bt534.1 bt534.2 bt542.1 bt546.1 bt546.2 bt550.1 bt554.1 bt558.1 bt566.1 bt574.1 bt578.1 true t530) else (if bt574.1 = bt576.1 then (if (bt578.2 != bt580.2) = true then (laws_FnTicketsGuessed.j0 k l1 bt534.1 bt534.2 bt542.1 bt546.1 bt546.2 bt550.1 bt554.1 bt558.1 bt566.1 bt574.1 bt578.1 true t530) else (if bt578.1.toList = bt580.1.toList then ((impl_IsPuzzle.f k t530).bind fun t591 => (if (bt534.2 != t591) = true then (laws_FnTicketsGuessed.j0 k l1 bt534.1 bt534.2 bt542.1 bt546.1 bt546.2 bt550.1 bt554.1 bt558.1 bt566.1 bt574.1 bt578.1 true t530) else ((impl_IsPuzzle.f k t530).bind fun t592 => ((spec_IsPuzzle.f k t530).bind fun t593 => (if (t592 != t593) = true then (laws_FnTicketsGuessed.j0 k l1 bt534.1 bt534.2 bt542.1 bt546.1 bt546.2 bt550.1 bt554.1 bt558.1 bt566.1 bt574.1 bt578.1 true t530) else (if (bt542.2 != bt534.2) = true then (laws_FnTicketsGuessed.j0 k l1 bt534.1 bt534.2 bt542.1 bt546.1 bt546.2 bt550.1 bt554.1 bt558.1 bt566.1 bt574.1 bt578.1 true t530) else (if bt534.2 = true then (if (bt546.2 != (decide (bt542.1 > 0))) = true then (laws_FnTicketsGuessed.j0 k l1 bt534.1 bt534.2 bt542.1 bt546.1 bt546.2 bt550.1 bt554.1 bt558.1 bt566.1 bt574.1 bt578.1 true t530) else (if (bt550.2 != bt546.2) = true then (laws_FnTicketsGuessed.j0 k l1 bt534.1 bt534.2 bt542.1 bt546.1 bt546.2 bt550.1 bt554.1 bt558.1 bt566.1 bt574.1 bt578.1 true t530) else (if (bt554.2 != bt534.2) = true then (laws_FnTicketsGuessed.j0 k l1 bt534.1 bt534.2 bt542.1 bt546.1 bt546.2 bt550.1 bt554.1 bt558.1 bt566.1 bt574.1 bt578.1 true t530) else (if (bt558.2 != bt534.2) = true then (laws_FnTicketsGuessed.j0 k l1 bt534.1 bt534.2 bt542.1 bt546.1 bt546.2 bt550.1 bt554.1 bt558.1 bt566.1 bt574.1 bt578.1 true t530) else (if (bt566.2 != bt534.2) = true then (laws_FnTicketsGuessed.j0 k l1 bt534.1 bt534.2 bt542.1 bt546.1 bt546.2 bt550.1 bt554.1 bt558.1 bt566.1 bt574.1 bt578.1 true t530) else (if (bt574.2 != (decide ((t530.length : Int) > 0))) = true then (laws_FnTicketsGuessed.j0 k l1 bt534.1 bt534.2 bt542.1 bt546.1 bt546.2 bt550.1 bt554.1 bt558.1 bt566.1 bt574.1 bt578.1 true t530) else (laws_FnTicketsGuessed.j0 k l1 bt534.1 bt534.2 bt542.1 bt546.1 bt546.2 bt550.1 bt554.1 bt558.1 bt566.1 bt574.1 bt578.1 (bt578.2 != bt534.2) t530))))))) else (if (bt546.2 != false) = true then (laws_FnTicketsGuessed.j0 k l1 bt534.1 bt534.2 bt542.1 bt546.1 bt546.2 bt550.1 bt554.1 bt558.1 bt566.1 bt574.1 bt578.1 true t530) else (if (bt550.2 != bt546.2) = true then (laws_FnTicketsGuessed.j0 k l1 bt534.1 bt534.2 bt542.1 bt546.1 bt546.2 bt550.1 bt554.1 bt558.1 bt566.1 bt574.1 bt578.1 true t530) else (if (bt554.2 != bt534.2) = true then (laws_FnTicketsGuessed.j0 k l1 bt534.1 bt534.2 bt542.1 bt546.1 bt546.2 bt550.1 bt554.1 bt558.1 bt566.1 bt574.1 bt578.1 true t530) else (if (bt558.2 != bt534.2) = true then (laws_FnTicketsGuessed.j0 k l1 bt534.1 bt534.2 bt542.1 bt546.1 bt546.2 bt550.1 bt554.1 bt558.1 bt566.1 bt574.1 bt578.1 true t530) else (if (bt566.2 != bt534.2) = true then (laws_FnTicketsGuessed.j0 k l1 bt534.1 bt534.2 bt542.1 bt546.1 bt546.2 bt550.1 bt554.1 bt558.1 bt566.1 bt574.1 bt578.1 true t530) else (if (bt574.2 != false) = true then (laws_FnTicketsGuessed.j0 k l1 bt534.1 bt534.2 bt542.1 bt546.1 bt546.2 bt550.1 bt554.1 bt558.1 bt566.1 bt574.1 bt578.1 true t530) else (laws_FnTicketsGuessed.j0 k l1 bt534.1 bt534.2 bt542.1 bt546.1 bt546.2 bt550.1 bt554.1 bt558.1 bt566.1 bt574.1 bt578.1 (bt578.2 != bt534.2) t530)))))))))))))) else (laws_FnTicketsGuessed.j0 k l1 bt534.1 bt534.2 bt542.1 bt546.1 bt546.2 bt550.1 bt554.1 bt558.1 bt566.1 bt574.1 bt578.1 true t530))) else (laws_FnTicketsGuessed.j0 k l1 bt534.1 bt534.2 bt542.1 bt546.1 bt546.2 bt550.1 bt554.1 bt558.1 bt566.1 bt574.1 bt578.1 true t530))) else (laws_FnTicketsGuessed.j0 k l1 bt534.1 bt534.2 bt542.1 bt546.1 bt546.2 bt550.1 bt554.1 bt558.1 bt566.1 bt574.1 bt578.1 true t530)))) else (laws_FnTicketsGuessed.j0 k l1 bt534.1 bt534.2 bt542.1 bt546.1 bt546.2 bt550.1 bt554.1 bt558.1 bt566.1 bt574.1 bt578.1 true t530)))))) else (laws_FnTicketsGuessed.j0 k l1 bt534.1 bt534.2 bt542.1 bt546.1 bt546.2 bt550.1 bt554.1 bt558.1 bt566.1 bt574.1 bt578.1 true t530))) else (laws_FnTicketsGuessed.j0 k l1 bt534.1 bt534.2 bt542.1 bt546.1 bt546.2 bt550.1 bt554.1 bt558.1 bt566.1 bt574.1 bt578.1 true t530))) else (laws_FnTicketsGuessed.j0 k l1 bt534.1 bt534.2 bt542.1 bt546.1 bt546.2 bt550.1 bt554.1 bt558.1 bt566.1 bt574.1 bt578.1 true t530))) else (laws_FnTicketsGuessed.j0 k l1 bt534.1 bt534.2 bt542.1 bt546.1 bt546.2 bt550.1 bt554.1 bt558.1 bt566.1 bt574.1 bt578.1 true t530))))))))))))))))))))))))
theorem laws_FnTicketsGuessed.j0_dead {k : Nat} {x1 : List Int} {x6 : List ByteArray} {x7 : Bool} {x10 : Int} {x14 : ByteArray} {x15 : Bool} {x18 : ByteArray} {x22 : Bool} {x26 : List Int} {x30 : List Int} {x34 : Int} {x38 : ByteArray} {x534000 : List (S46)} {r : Bool} {P : Prop} (H : laws_FnTicketsGuessed.j0 k x1 x6 x7 x10 x14 x15 x18 x22 x26 x30 x34 x38 true x534000 = some r) (h : Aside0 (r = true)) : P := by
 cases k with
 | zero => exact none_ (by simp only [laws_FnTicketsGuessed.j0]) H
 | succ k => exact dead_ (by simp only [laws_FnTicketsGuessed.j0]; first | exact if_pos rfl | exact if_pos trivial) H h
theorem laws_FnTicketsGuessed.j1_dead {k : Nat} {x1 : List Int} {x6 : List ByteArray} {x10 : Int} {x18 : ByteArray} {x26 : List Int} {x30 : List Int} {x34 : Int} {x38 : ByteArray} {x534000 : List (S46)} {r : Bool} {P : Prop} (H : laws_FnTicketsGuessed.j1 k x1 x6 x10 x18 x26 x30 x34 x38 true x534000 = some r) (h : Aside0 (r = true)) : P := by
 cases k with
 | zero => exact none_ (by simp only [laws_FnTicketsGuessed.j1]) H
 | succ k => exact dead_ (by simp only [laws_FnTicketsGuessed.j1]; first | exact if_pos rfl | exact if_pos trivial) H h
theorem laws_FnTicketsGuessed.calls (k : Nat) (A0 : Option Addr) (c0 : Nat) (l0 : List Int) (A1 : Option Addr) (c1 : Nat) (l1 : List Int) (r : Bool) (w : World) (hT : Shelf.TabOk w) (hr0 : Kd.C (Kd.int .u8) w A0 l0.length l0) (hc0 : l0.length ≤ c0) (hr1 : Kd.C (Kd.int .u8) w A1 l1.length l1) (hc1 : l1.length ≤ c1) (hr_ : Aside0 (r = true)) (h : laws_FnTicketsGuessed.f k l0 l1 = some r) :
 Calls Tryz.prog 3 #[.slice A0 l0.length c0, .slice A1 l1.length c1] w fun e w' => e = .returned (.bool r) ∧ Below w.heap.size w w' := by
 have hu26 := Tryz.underlying26
 have hu46 := Tryz.underlying46
 have HR0 := Aside0.mk hr0
 have HC0 := Aside0.mk hc0
 clear hr0 hc0
 have HR1 := Aside0.mk hr1
 have HC1 := Aside0.mk hc1
 clear hr1 hc1
 have HT := Aside0.mk hT
 clear hT
 have HB := Aside0.mk (Below.refl w.heap.size w)
 unfold laws_FnTicketsGuessed.f at h
 have H := h
 clear h
 replace H := bd_ H; obtain ⟨t529, A3, H⟩ := H
 by_cases c4 : t529 = true
 · subst c4
   rw [if_pos rfl] at H
   as_aux_lemma =>
    obtain rfl := Option.some.inj H
    go_enter Tryz.func3, Tryz.ntmps3
    go_wp2_with (first | (go_at_call 4; (with_reducible refine (laws_big.calls _ _ l0 _ _ l1 true _ ?side1 ?side2 ?side3 ?side4 A3.out).mono ?_); (case side1 => exact zc20_14_); (case side2 => exact HC0.out); (case side3 => exact zc20_15_); (case side4 => exact HC1.out); rintro e w' ⟨rfl, ⟨nd, rfl⟩⟩; (try first | exact ⟨rfl, _, World.drewN_drewN _ _ _⟩ | exact ⟨rfl, _, Eq.trans (World.drewN_drewN _ _ _) (congrArg (World.drewN _) (Nat.add_assoc _ _ _))⟩)))
    repeat (go_quiet (fail); try go_wp2_with (first | (go_at_call 4; (with_reducible refine (laws_big.calls _ _ l0 _ _ l1 true _ ?side1 ?side2 ?side3 ?side4 A3.out).mono ?_); (case side1 => exact zc20_14_); (case side2 => exact HC0.out); (case side3 => exact zc20_15_); (case side4 => exact HC1.out); rintro e w' ⟨rfl, ⟨nd, rfl⟩⟩; (try first | exact ⟨rfl, _, World.drewN_drewN _ _ _⟩ | exact ⟨rfl, _, Eq.trans (World.drewN_drewN _ _ _) (congrArg (World.drewN _) (Nat.add_assoc _ _ _))⟩))))
    go_ret
    exact ⟨zL_, zB_⟩
 replace H := bf_ c4 H; obtain ⟨rfl, H⟩ := H
 as_aux_lemma =>
 replace H := bd_ H; obtain ⟨t530, A5, H⟩ := H
 replace H := bd_ H; obtain ⟨⟨t534, t537⟩, A6, H⟩ := H
 dsimp only at H
 replace H := bd_ H; obtain ⟨⟨t538, t541⟩, A7, H⟩ := H
 dsimp only at H
 replace H := bd_ H; obtain ⟨⟨t542, t543⟩, A8, H⟩ := H
 dsimp only at H
 replace H := bd_ H; obtain ⟨⟨t544, t545⟩, A9, H⟩ := H
 dsimp only at H
 replace H := bd_ H; obtain ⟨⟨t546, t547⟩, A10, H⟩ := H
 dsimp only at H
 as_aux_lemma =>
 replace H := bd_ H; obtain ⟨⟨t548, t549⟩, A11, H⟩ := H
 dsimp only at H
 replace H := bd_ H; obtain ⟨⟨t550, t551⟩, A12, H⟩ := H
 dsimp only at H
 replace H := bd_ H; obtain ⟨⟨t552, t553⟩, A13, H⟩ := H
 dsimp only at H
 replace H := bd_ H; obtain ⟨⟨t554, t555⟩, A14, H⟩ := H
 dsimp only at H
 replace H := bd_ H; obtain ⟨⟨t556, t557⟩, A15, H⟩ := H
 dsimp only at H
 as_aux_lemma =>
 replace H := bd_ H; obtain ⟨⟨t558, t561⟩, A16, H⟩ := H
 dsimp only at H
 replace H := bd_ H; obtain ⟨⟨t562, t565⟩, A17, H⟩ := H
 dsimp only at H
 replace H := bd_ H; obtain ⟨⟨t566, t569⟩, A18, H⟩ := H
 dsimp only at H
 replace H := bd_ H; obtain ⟨⟨t570, t573⟩, A19, H⟩ := H
 dsimp only at H
 replace H := bd_ H; obtain ⟨⟨t574, t575⟩, A20, H⟩ := H
 dsimp only at H
 as_aux_lemma =>
 replace H := bd_ H; obtain ⟨⟨t576, t577⟩, A21, H⟩ := H
 dsimp only at H
 replace H := bd_ H; obtain ⟨⟨t578, t579⟩, A22, H⟩ := H
 dsimp only at H
 replace H := bd_ H; obtain ⟨⟨t580, t581⟩, A23, H⟩ := H
 dsimp only at H
 have HC24 := Aside0.mk H
 clear H
 go_enter Tryz.func3, Tryz.ntmps3
 go_upto_region 22 with (first | (go_at_call 4; (with_reducible refine (laws_big.calls _ _ l0 _ _ l1 false _ ?side1 ?side2 ?side3 ?side4 A3.out).mono ?_); (case side1 => exact zc20_14_); (case side2 => exact HC0.out); (case side3 => exact zc20_15_); (case side4 => exact HC1.out); rintro e w' ⟨rfl, ⟨nd, rfl⟩⟩; (try first | exact ⟨rfl, _, World.drewN_drewN _ _ _⟩ | exact ⟨rfl, _, Eq.trans (World.drewN_drewN _ _ _) (congrArg (World.drewN _) (Nat.add_assoc _ _ _))⟩)) | (go_at_call 5; (with_reducible refine (spec_DrawSolutions.calls k _ _ l0 t530 _ ?side1 ?side2 A5.out).mono ?_); (case side1 => exact zc20_14_); (case side2 => exact HC0.out); rintro e w25 ⟨v531, rfl, ho0, hb⟩; have HO532 := Aside0.mk (Kd.R_lower ho0 (below_size zB_)); replace HB := Aside0.mk (below_step zB_ hb)) | ((with_reducible refine gate_dst (N := 5) rfl ?_); refine bxg_ 5 #[.slice none 0 0] 26 ?_; intro gb533 hg w26 hbox hb; replace HO532 := Aside0.mk (Kd.R_below z20_2_ hb); have BK533 := Aside0.mk (hbox); have GW533 : Aside0 (w.heap.size ≤ gb533) := bs_ hg zB_; have GE533 := GW533; replace HB := Aside0.mk (below_step zB_ hb); clear hb hbox hg; obtain ⟨Ao27, co27, eo27⟩ := Kd.R_slice HO532.out; subst eo27; have hcz28_0 : w26.cell? ⟨gb533, 0, none⟩ = some (.slice none 0 0) := (blk_cell BK533.out 0).trans rfl; have hfz28_0 := blk_frozen BK533.out 0) | (go_at_call 6; (with_reducible refine (impl_Solutions.calls k _ _ t530 t534 t537 _ ?side1 ?side2 A6.out).mono ?_); (case side1 => exact zc20_7_); (case side2 => exact zc20_18_); rintro e w29 ⟨v535, rfl, ho0, hb⟩; replace HO532 := Aside0.mk (Kd.R_below zq20_17_ hb); have HO536 := Aside0.mk (Kd.R_lower ho0 (below_size z20_0_)); replace BK533 := Aside0.mk (blk_below (g := gb533) (o := .cells #[.slice Ao27 t530.length co27] 26 (0, 0)) z20_27_ hb); replace HB := Aside0.mk (below_step z20_0_ hb); have hcz30_0 : w29.cell? ⟨gb533, 0, none⟩ = some (.slice Ao27 t530.length co27) := (blk_cell BK533.out 0).trans rfl; have hfz30_0 := blk_frozen BK533.out 0) | (go_at_call 7; (with_reducible refine (spec_Solutions.calls k _ _ t530 t538 t541 _ ?side1 ?side2 A7.out).mono ?_); (case side1 => exact zc20_9_); (case side2 => exact zc20_18_); rintro e w31 ⟨v539, rfl, ho0, hb⟩; replace HO532 := Aside0.mk (Kd.R_below z20_2_ hb); have HO540 := Aside0.mk (Kd.R_lower (Kd.R_new' ho0 (Kd.R_lt z20_3_)) (below_size z20_0_)); replace HO536 := Aside0.mk (Kd.R_elder' z20_3_ (Kd.R_base ho0) hb); replace BK533 := bb_ BK533 z20_1_ hb; replace HB := Aside0.mk (below_step z20_0_ hb); have hcz32_0 : w31.cell? ⟨gb533, 0, none⟩ = some (.slice Ao27 t530.length co27) := (blk_cell BK533.out 0).trans rfl; have hfz32_0 := blk_frozen BK533.out 0) | (go_at_call 8; (with_reducible refine (impl_CountSolutions.calls k _ _ t530 t542 t543 _ ?side1 ?side2 A8.out).mono ?_); (case side1 => exact zc20_9_); (case side2 => exact zc20_18_); rintro e w33 ⟨rfl, hb⟩; replace HO532 := Aside0.mk (Kd.R_below z20_2_ hb); replace HO536 := Aside0.mk (Kd.R_below z20_3_ hb); replace HO540 := Aside0.mk (Kd.R_below z20_4_ hb); replace BK533 := bb_ BK533 z20_1_ hb; replace HB := Aside0.mk (below_step z20_0_ hb); have hcz34_0 : w33.cell? ⟨gb533, 0, none⟩ = some (.slice Ao27 t530.length co27) := (blk_cell BK533.out 0).trans rfl; have hfz34_0 := blk_frozen BK533.out 0) | (go_at_call 9; (with_reducible refine (spec_CountSolutions.calls k _ _ t530 t544 t545 _ ?side1 ?side2 A9.out).mono ?_); (case side1 => exact zc20_9_); (case side2 => exact zc20_18_); rintro e w35 ⟨rfl, hb⟩; replace HO532 := Aside0.mk (Kd.R_below z20_2_ hb); replace HO536 := Aside0.mk (Kd.R_below z20_3_ hb); replace HO540 := Aside0.mk (Kd.R_below z20_4_ hb); replace BK533 := bb_ BK533 z20_1_ hb; replace HB := Aside0.mk (below_step z20_0_ hb); have hcz36_0 : w35.cell? ⟨gb533, 0, none⟩ = some (.slice Ao27 t530.length co27) := (blk_cell BK533.out 0).trans rfl; have hfz36_0 := blk_frozen BK533.out 0) | (go_at_call 10; (with_reducible refine (impl_FirstSolution.calls k _ _ t530 t546 t547 _ ?side1 ?side2 A10.out).mono ?_); (case side1 => exact zc20_9_); (case side2 => exact zc20_18_); rintro e w37 ⟨rfl, hb⟩; replace HO532 := Aside0.mk (Kd.R_below z20_2_ hb); replace HO536 := Aside0.mk (Kd.R_below z20_3_ hb); replace HO540 := Aside0.mk (Kd.R_below z20_4_ hb); replace BK533 := bb_ BK533 z20_1_ hb; replace HB := Aside0.mk (below_step z20_0_ hb); have hcz38_0 : w37.cell? ⟨gb533, 0, none⟩ = some (.slice Ao27 t530.length co27) := (blk_cell BK533.out 0).trans rfl; have hfz38_0 := blk_frozen BK533.out 0) | (go_at_call 11; (with_reducible refine (spec_FirstSolution.calls k _ _ t530 t548 t549 _ ?side1 ?side2 A11.out).mono ?_); (case side1 => exact zc20_9_); (case side2 => exact zc20_18_); rintro e w39 ⟨rfl, hb⟩; replace HO532 := Aside0.mk (Kd.R_below z20_2_ hb); replace HO536 := Aside0.mk (Kd.R_below z20_3_ hb); replace HO540 := Aside0.mk (Kd.R_below z20_4_ hb); replace BK533 := bb_ BK533 z20_1_ hb; replace HB := Aside0.mk (below_step z20_0_ hb); have hcz40_0 : w39.cell? ⟨gb533, 0, none⟩ = some (.slice Ao27 t530.length co27) := (blk_cell BK533.out 0).trans rfl; have hfz40_0 := blk_frozen BK533.out 0) | (go_at_call 12; (with_reducible refine (impl_SureDigits.calls k _ _ t530 t550 t551 _ ?side1 ?side2 A12.out).mono ?_); (case side1 => exact zc20_9_); (case side2 => exact zc20_18_); rintro e w41 ⟨rfl, hb⟩; replace HO532 := Aside0.mk (Kd.R_below z20_2_ hb); replace HO536 := Aside0.mk (Kd.R_below z20_3_ hb); replace HO540 := Aside0.mk (Kd.R_below z20_4_ hb); replace BK533 := bb_ BK533 z20_1_ hb; replace HB := Aside0.mk (below_step z20_0_ hb); have hcz42_0 : w41.cell? ⟨gb533, 0, none⟩ = some (.slice Ao27 t530.length co27) := (blk_cell BK533.out 0).trans rfl; have hfz42_0 := blk_frozen BK533.out 0) | (go_at_call 13; (with_reducible refine (spec_SureDigits.calls k _ _ t530 t552 t553 _ ?side1 ?side2 A13.out).mono ?_); (case side1 => exact zc20_9_); (case side2 => exact zc20_18_); rintro e w43 ⟨rfl, hb⟩; replace HO532 := Aside0.mk (Kd.R_below z20_2_ hb); replace HO536 := Aside0.mk (Kd.R_below z20_3_ hb); replace HO540 := Aside0.mk (Kd.R_below z20_4_ hb); replace BK533 := bb_ BK533 z20_1_ hb; replace HB := Aside0.mk (below_step z20_0_ hb); have hcz44_0 : w43.cell? ⟨gb533, 0, none⟩ = some (.slice Ao27 t530.length co27) := (blk_cell BK533.out 0).trans rfl; have hfz44_0 := blk_frozen BK533.out 0) | (go_at_call 14; (with_reducible refine (impl_IsSolved.calls k _ _ t530 t554 t555 _ ?side1 ?side2 A14.out).mono ?_); (case side1 => exact zc20_9_); (case side2 => exact zc20_18_); rintro e w45 ⟨rfl, hb⟩; replace HO532 := Aside0.mk (Kd.R_below z20_2_ hb); replace HO536 := Aside0.mk (Kd.R_below z20_3_ hb); replace HO540 := Aside0.mk (Kd.R_below z20_4_ hb); replace BK533 := bb_ BK533 z20_1_ hb; replace HB := Aside0.mk (below_step z20_0_ hb); have hcz46_0 : w45.cell? ⟨gb533, 0, none⟩ = some (.slice Ao27 t530.length co27) := (blk_cell BK533.out 0).trans rfl; have hfz46_0 := blk_frozen BK533.out 0) | (go_at_call 15; (with_reducible refine (spec_IsSolved.calls k _ _ t530 t556 t557 _ ?side1 ?side2 A15.out).mono ?_); (case side1 => exact zc20_9_); (case side2 => exact zc20_18_); rintro e w47 ⟨rfl, hb⟩; replace HO532 := Aside0.mk (Kd.R_below z20_2_ hb); replace HO536 := Aside0.mk (Kd.R_below z20_3_ hb); replace HO540 := Aside0.mk (Kd.R_below z20_4_ hb); replace BK533 := bb_ BK533 z20_1_ hb; replace HB := Aside0.mk (below_step z20_0_ hb); have hcz48_0 : w47.cell? ⟨gb533, 0, none⟩ = some (.slice Ao27 t530.length co27) := (blk_cell BK533.out 0).trans rfl; have hfz48_0 := blk_frozen BK533.out 0) | (go_at_call 16; (with_reducible refine (impl_NeedlessClues.calls k _ _ t530 t558 t561 _ ?side1 ?side2 A16.out).mono ?_); (case side1 => exact zc20_9_); (case side2 => exact zc20_18_); rintro e w49 ⟨v559, rfl, ho0, hb⟩; replace HO532 := Aside0.mk (Kd.R_below z20_2_ hb); replace HO536 := Aside0.mk (Kd.R_below z20_3_ hb); replace HO540 := Aside0.mk (Kd.R_below z20_4_ hb); have HO560 := Aside0.mk (Kd.R_lower ho0 (below_size z20_0_)); replace BK533 := bb_ BK533 z20_1_ hb; replace HB := Aside0.mk (below_step z20_0_ hb); have hcz50_0 : w49.cell? ⟨gb533, 0, none⟩ = some (.slice Ao27 t530.length co27) := (blk_cell BK533.out 0).trans rfl; have hfz50_0 := blk_frozen BK533.out 0) | (go_at_call 17; (with_reducible refine (spec_NeedlessClues.calls k _ _ t530 t562 t565 _ ?side1 ?side2 A17.out).mono ?_); (case side1 => exact zc20_9_); (case side2 => exact zc20_18_); rintro e w51 ⟨v563, rfl, ho0, hb⟩; replace HO532 := Aside0.mk (Kd.R_below z20_2_ hb); replace HO536 := Aside0.mk (Kd.R_below z20_3_ hb); replace HO540 := Aside0.mk (Kd.R_below z20_4_ hb); have HO564 := Aside0.mk (Kd.R_lower (Kd.R_new' ho0 (Kd.R_lt z20_6_)) (below_size z20_0_)); replace HO560 := Aside0.mk (Kd.R_elder' z20_6_ (Kd.R_base ho0) hb); replace BK533 := bb_ BK533 z20_1_ hb; replace HB := Aside0.mk (below_step z20_0_ hb); have hcz52_0 : w51.cell? ⟨gb533, 0, none⟩ = some (.slice Ao27 t530.length co27) := (blk_cell BK533.out 0).trans rfl; have hfz52_0 := blk_frozen BK533.out 0) | (go_at_call 18; (with_reducible refine (impl_LeftByClues.calls k _ _ t530 t566 t569 _ ?side1 ?side2 A18.out).mono ?_); (case side1 => exact zc20_9_); (case side2 => exact zc20_18_); rintro e w53 ⟨v567, rfl, ho0, hb⟩; replace HO532 := Aside0.mk (Kd.R_below z20_2_ hb); replace HO536 := Aside0.mk (Kd.R_below z20_3_ hb); replace HO540 := Aside0.mk (Kd.R_below z20_4_ hb); have HO568 := Aside0.mk (Kd.R_lower (Kd.R_new' (Kd.R_new' ho0 (Kd.R_lt z20_6_)) (Kd.R_lt z20_7_)) (below_size z20_0_)); replace HO560 := Aside0.mk (Kd.R_elder' z20_6_ (Kd.R_base ho0) hb); replace HO564 := Aside0.mk (Kd.R_elder' z20_7_ (Kd.R_base ho0) hb); replace BK533 := bb_ BK533 z20_1_ hb; replace HB := Aside0.mk (below_step z20_0_ hb); have hcz54_0 : w53.cell? ⟨gb533, 0, none⟩ = some (.slice Ao27 t530.length co27) := (blk_cell BK533.out 0).trans rfl; have hfz54_0 := blk_frozen BK533.out 0) | (go_at_call 19; (with_reducible refine (spec_LeftByClues.calls k _ _ t530 t570 t573 _ ?side1 ?side2 A19.out).mono ?_); (case side1 => exact zc20_9_); (case side2 => exact zc20_18_); rintro e w55 ⟨v571, rfl, ho0, hb⟩; replace HO532 := Aside0.mk (Kd.R_below z20_2_ hb); replace HO536 := Aside0.mk (Kd.R_below z20_3_ hb); replace HO540 := Aside0.mk (Kd.R_below z20_4_ hb); have HO572 := Aside0.mk (Kd.R_lower (Kd.R_new' (Kd.R_new' (Kd.R_new' ho0 (Kd.R_lt z20_6_)) (Kd.R_lt z20_7_)) (Kd.R_lt z20_9_)) (below_size z20_0_)); replace HO560 := Aside0.mk (Kd.R_elder' z20_6_ (Kd.R_base ho0) hb); replace HO564 := Aside0.mk (Kd.R_elder' z20_7_ (Kd.R_base ho0) hb); replace HO568 := Aside0.mk (Kd.R_elder' z20_9_ (Kd.R_base ho0) hb); replace BK533 := bb_ BK533 z20_1_ hb; replace HB := Aside0.mk (below_step z20_0_ hb); have hcz56_0 : w55.cell? ⟨gb533, 0, none⟩ = some (.slice Ao27 t530.length co27) := (blk_cell BK533.out 0).trans rfl; have hfz56_0 := blk_frozen BK533.out 0) | (go_at_call 20; (with_reducible refine (impl_BestClue.calls k _ _ t530 t574 t575 _ ?side1 ?side2 A20.out).mono ?_); (case side1 => exact zc20_9_); (case side2 => exact zc20_18_); rintro e w57 ⟨rfl, hb⟩; replace HO532 := Aside0.mk (Kd.R_below z20_2_ hb); replace HO536 := Aside0.mk (Kd.R_below z20_3_ hb); replace HO540 := Aside0.mk (Kd.R_below z20_4_ hb); replace HO560 := Aside0.mk (Kd.R_below z20_6_ hb); replace HO564 := Aside0.mk (Kd.R_below z20_7_ hb); replace HO568 := Aside0.mk (Kd.R_below z20_9_ hb); replace HO572 := Aside0.mk (Kd.R_below z20_10_ hb); replace BK533 := bb_ BK533 z20_1_ hb; replace HB := Aside0.mk (below_step z20_0_ hb); have hcz58_0 : w57.cell? ⟨gb533, 0, none⟩ = some (.slice Ao27 t530.length co27) := (blk_cell BK533.out 0).trans rfl; have hfz58_0 := blk_frozen BK533.out 0) | (go_at_call 21; (with_reducible refine (spec_BestClue.calls k _ _ t530 t576 t577 _ ?side1 ?side2 A21.out).mono ?_); (case side1 => exact zc20_9_); (case side2 => exact zc20_18_); rintro e w59 ⟨rfl, hb⟩; replace HO532 := Aside0.mk (Kd.R_below z20_2_ hb); replace HO536 := Aside0.mk (Kd.R_below z20_3_ hb); replace HO540 := Aside0.mk (Kd.R_below z20_4_ hb); replace HO560 := Aside0.mk (Kd.R_below z20_6_ hb); replace HO564 := Aside0.mk (Kd.R_below z20_7_ hb); replace HO568 := Aside0.mk (Kd.R_below z20_9_ hb); replace HO572 := Aside0.mk (Kd.R_below z20_10_ hb); replace BK533 := bb_ BK533 z20_1_ hb; replace HB := Aside0.mk (below_step z20_0_ hb); have hcz60_0 : w59.cell? ⟨gb533, 0, none⟩ = some (.slice Ao27 t530.length co27) := (blk_cell BK533.out 0).trans rfl; have hfz60_0 := blk_frozen BK533.out 0) | (go_at_call 22; (with_reducible refine (impl_PuzzleText.calls k _ _ t530 t578 t579 _ ?side1 ?side2 A22.out).mono ?_); (case side1 => exact zc20_9_); (case side2 => exact zc20_18_); rintro e w61 ⟨rfl, hb⟩; replace HO532 := Aside0.mk (Kd.R_below z20_2_ hb); replace HO536 := Aside0.mk (Kd.R_below z20_3_ hb); replace HO540 := Aside0.mk (Kd.R_below z20_4_ hb); replace HO560 := Aside0.mk (Kd.R_below z20_6_ hb); replace HO564 := Aside0.mk (Kd.R_below z20_7_ hb); replace HO568 := Aside0.mk (Kd.R_below z20_9_ hb); replace HO572 := Aside0.mk (Kd.R_below z20_10_ hb); replace BK533 := bb_ BK533 z20_1_ hb; replace HB := Aside0.mk (below_step z20_0_ hb); have hcz62_0 : w61.cell? ⟨gb533, 0, none⟩ = some (.slice Ao27 t530.length co27) := (blk_cell BK533.out 0).trans rfl; have hfz62_0 := blk_frozen BK533.out 0) | (go_at_call 23; (with_reducible refine (spec_PuzzleText.calls k _ _ t530 t580 t581 _ ?side1 ?side2 A23.out).mono ?_); (case side1 => exact zc20_9_); (case side2 => exact zc20_18_); rintro e w63 ⟨rfl, hb⟩; replace HO532 := Aside0.mk (Kd.R_below z20_2_ hb); replace HO536 := Aside0.mk (Kd.R_below z20_3_ hb); replace HO540 := Aside0.mk (Kd.R_below z20_4_ hb); replace HO560 := Aside0.mk (Kd.R_below z20_6_ hb); replace HO564 := Aside0.mk (Kd.R_below z20_7_ hb); replace HO568 := Aside0.mk (Kd.R_below z20_9_ hb); replace HO572 := Aside0.mk (Kd.R_below z20_10_ hb); replace BK533 := bb_ BK533 z20_1_ hb; replace HB := Aside0.mk (below_step z20_0_ hb)))
 repeat (go_quiet (fail); go_upto_region 22 with (first | (go_at_call 4; (with_reducible refine (laws_big.calls _ _ l0 _ _ l1 false _ ?side1 ?side2 ?side3 ?side4 A3.out).mono ?_); (case side1 => exact zc20_14_); (case side2 => exact HC0.out); (case side3 => exact zc20_15_); (case side4 => exact HC1.out); rintro e w' ⟨rfl, ⟨nd, rfl⟩⟩; (try first | exact ⟨rfl, _, World.drewN_drewN _ _ _⟩ | exact ⟨rfl, _, Eq.trans (World.drewN_drewN _ _ _) (congrArg (World.drewN _) (Nat.add_assoc _ _ _))⟩)) | (go_at_call 5; (with_reducible refine (spec_DrawSolutions.calls k _ _ l0 t530 _ ?side1 ?side2 A5.out).mono ?_); (case side1 => exact zc20_14_); (case side2 => exact HC0.out); rintro e w25 ⟨v531, rfl, ho0, hb⟩; have HO532 := Aside0.mk (Kd.R_lower ho0 (below_size zB_)); replace HB := Aside0.mk (below_step zB_ hb)) | ((with_reducible refine gate_dst (N := 5) rfl ?_); refine bxg_ 5 #[.slice none 0 0] 26 ?_; intro gb533 hg w26 hbox hb; replace HO532 := Aside0.mk (Kd.R_below z20_2_ hb); have BK533 := Aside0.mk (hbox); have GW533 : Aside0 (w.heap.size ≤ gb533) := bs_ hg zB_; have GE533 := GW533; replace HB := Aside0.mk (below_step zB_ hb); clear hb hbox hg; obtain ⟨Ao27, co27, eo27⟩ := Kd.R_slice HO532.out; subst eo27; have hcz28_0 : w26.cell? ⟨gb533, 0, none⟩ = some (.slice none 0 0) := (blk_cell BK533.out 0).trans rfl; have hfz28_0 := blk_frozen BK533.out 0) | (go_at_call 6; (with_reducible refine (impl_Solutions.calls k _ _ t530 t534 t537 _ ?side1 ?side2 A6.out).mono ?_); (case side1 => exact zc20_7_); (case side2 => exact zc20_18_); rintro e w29 ⟨v535, rfl, ho0, hb⟩; replace HO532 := Aside0.mk (Kd.R_below zq20_17_ hb); have HO536 := Aside0.mk (Kd.R_lower ho0 (below_size z20_0_)); replace BK533 := Aside0.mk (blk_below (g := gb533) (o := .cells #[.slice Ao27 t530.length co27] 26 (0, 0)) z20_27_ hb); replace HB := Aside0.mk (below_step z20_0_ hb); have hcz30_0 : w29.cell? ⟨gb533, 0, none⟩ = some (.slice Ao27 t530.length co27) := (blk_cell BK533.out 0).trans rfl; have hfz30_0 := blk_frozen BK533.out 0) | (go_at_call 7; (with_reducible refine (spec_Solutions.calls k _ _ t530 t538 t541 _ ?side1 ?side2 A7.out).mono ?_); (case side1 => exact zc20_9_); (case side2 => exact zc20_18_); rintro e w31 ⟨v539, rfl, ho0, hb⟩; replace HO532 := Aside0.mk (Kd.R_below z20_2_ hb); have HO540 := Aside0.mk (Kd.R_lower (Kd.R_new' ho0 (Kd.R_lt z20_3_)) (below_size z20_0_)); replace HO536 := Aside0.mk (Kd.R_elder' z20_3_ (Kd.R_base ho0) hb); replace BK533 := bb_ BK533 z20_1_ hb; replace HB := Aside0.mk (below_step z20_0_ hb); have hcz32_0 : w31.cell? ⟨gb533, 0, none⟩ = some (.slice Ao27 t530.length co27) := (blk_cell BK533.out 0).trans rfl; have hfz32_0 := blk_frozen BK533.out 0) | (go_at_call 8; (with_reducible refine (impl_CountSolutions.calls k _ _ t530 t542 t543 _ ?side1 ?side2 A8.out).mono ?_); (case side1 => exact zc20_9_); (case side2 => exact zc20_18_); rintro e w33 ⟨rfl, hb⟩; replace HO532 := Aside0.mk (Kd.R_below z20_2_ hb); replace HO536 := Aside0.mk (Kd.R_below z20_3_ hb); replace HO540 := Aside0.mk (Kd.R_below z20_4_ hb); replace BK533 := bb_ BK533 z20_1_ hb; replace HB := Aside0.mk (below_step z20_0_ hb); have hcz34_0 : w33.cell? ⟨gb533, 0, none⟩ = some (.slice Ao27 t530.length co27) := (blk_cell BK533.out 0).trans rfl; have hfz34_0 := blk_frozen BK533.out 0) | (go_at_call 9; (with_reducible refine (spec_CountSolutions.calls k _ _ t530 t544 t545 _ ?side1 ?side2 A9.out).mono ?_); (case side1 => exact zc20_9_); (case side2 => exact zc20_18_); rintro e w35 ⟨rfl, hb⟩; replace HO532 := Aside0.mk (Kd.R_below z20_2_ hb); replace HO536 := Aside0.mk (Kd.R_below z20_3_ hb); replace HO540 := Aside0.mk (Kd.R_below z20_4_ hb); replace BK533 := bb_ BK533 z20_1_ hb; replace HB := Aside0.mk (below_step z20_0_ hb); have hcz36_0 : w35.cell? ⟨gb533, 0, none⟩ = some (.slice Ao27 t530.length co27) := (blk_cell BK533.out 0).trans rfl; have hfz36_0 := blk_frozen BK533.out 0) | (go_at_call 10; (with_reducible refine (impl_FirstSolution.calls k _ _ t530 t546 t547 _ ?side1 ?side2 A10.out).mono ?_); (case side1 => exact zc20_9_); (case side2 => exact zc20_18_); rintro e w37 ⟨rfl, hb⟩; replace HO532 := Aside0.mk (Kd.R_below z20_2_ hb); replace HO536 := Aside0.mk (Kd.R_below z20_3_ hb); replace HO540 := Aside0.mk (Kd.R_below z20_4_ hb); replace BK533 := bb_ BK533 z20_1_ hb; replace HB := Aside0.mk (below_step z20_0_ hb); have hcz38_0 : w37.cell? ⟨gb533, 0, none⟩ = some (.slice Ao27 t530.length co27) := (blk_cell BK533.out 0).trans rfl; have hfz38_0 := blk_frozen BK533.out 0) | (go_at_call 11; (with_reducible refine (spec_FirstSolution.calls k _ _ t530 t548 t549 _ ?side1 ?side2 A11.out).mono ?_); (case side1 => exact zc20_9_); (case side2 => exact zc20_18_); rintro e w39 ⟨rfl, hb⟩; replace HO532 := Aside0.mk (Kd.R_below z20_2_ hb); replace HO536 := Aside0.mk (Kd.R_below z20_3_ hb); replace HO540 := Aside0.mk (Kd.R_below z20_4_ hb); replace BK533 := bb_ BK533 z20_1_ hb; replace HB := Aside0.mk (below_step z20_0_ hb); have hcz40_0 : w39.cell? ⟨gb533, 0, none⟩ = some (.slice Ao27 t530.length co27) := (blk_cell BK533.out 0).trans rfl; have hfz40_0 := blk_frozen BK533.out 0) | (go_at_call 12; (with_reducible refine (impl_SureDigits.calls k _ _ t530 t550 t551 _ ?side1 ?side2 A12.out).mono ?_); (case side1 => exact zc20_9_); (case side2 => exact zc20_18_); rintro e w41 ⟨rfl, hb⟩; replace HO532 := Aside0.mk (Kd.R_below z20_2_ hb); replace HO536 := Aside0.mk (Kd.R_below z20_3_ hb); replace HO540 := Aside0.mk (Kd.R_below z20_4_ hb); replace BK533 := bb_ BK533 z20_1_ hb; replace HB := Aside0.mk (below_step z20_0_ hb); have hcz42_0 : w41.cell? ⟨gb533, 0, none⟩ = some (.slice Ao27 t530.length co27) := (blk_cell BK533.out 0).trans rfl; have hfz42_0 := blk_frozen BK533.out 0) | (go_at_call 13; (with_reducible refine (spec_SureDigits.calls k _ _ t530 t552 t553 _ ?side1 ?side2 A13.out).mono ?_); (case side1 => exact zc20_9_); (case side2 => exact zc20_18_); rintro e w43 ⟨rfl, hb⟩; replace HO532 := Aside0.mk (Kd.R_below z20_2_ hb); replace HO536 := Aside0.mk (Kd.R_below z20_3_ hb); replace HO540 := Aside0.mk (Kd.R_below z20_4_ hb); replace BK533 := bb_ BK533 z20_1_ hb; replace HB := Aside0.mk (below_step z20_0_ hb); have hcz44_0 : w43.cell? ⟨gb533, 0, none⟩ = some (.slice Ao27 t530.length co27) := (blk_cell BK533.out 0).trans rfl; have hfz44_0 := blk_frozen BK533.out 0) | (go_at_call 14; (with_reducible refine (impl_IsSolved.calls k _ _ t530 t554 t555 _ ?side1 ?side2 A14.out).mono ?_); (case side1 => exact zc20_9_); (case side2 => exact zc20_18_); rintro e w45 ⟨rfl, hb⟩; replace HO532 := Aside0.mk (Kd.R_below z20_2_ hb); replace HO536 := Aside0.mk (Kd.R_below z20_3_ hb); replace HO540 := Aside0.mk (Kd.R_below z20_4_ hb); replace BK533 := bb_ BK533 z20_1_ hb; replace HB := Aside0.mk (below_step z20_0_ hb); have hcz46_0 : w45.cell? ⟨gb533, 0, none⟩ = some (.slice Ao27 t530.length co27) := (blk_cell BK533.out 0).trans rfl; have hfz46_0 := blk_frozen BK533.out 0) | (go_at_call 15; (with_reducible refine (spec_IsSolved.calls k _ _ t530 t556 t557 _ ?side1 ?side2 A15.out).mono ?_); (case side1 => exact zc20_9_); (case side2 => exact zc20_18_); rintro e w47 ⟨rfl, hb⟩; replace HO532 := Aside0.mk (Kd.R_below z20_2_ hb); replace HO536 := Aside0.mk (Kd.R_below z20_3_ hb); replace HO540 := Aside0.mk (Kd.R_below z20_4_ hb); replace BK533 := bb_ BK533 z20_1_ hb; replace HB := Aside0.mk (below_step z20_0_ hb); have hcz48_0 : w47.cell? ⟨gb533, 0, none⟩ = some (.slice Ao27 t530.length co27) := (blk_cell BK533.out 0).trans rfl; have hfz48_0 := blk_frozen BK533.out 0) | (go_at_call 16; (with_reducible refine (impl_NeedlessClues.calls k _ _ t530 t558 t561 _ ?side1 ?side2 A16.out).mono ?_); (case side1 => exact zc20_9_); (case side2 => exact zc20_18_); rintro e w49 ⟨v559, rfl, ho0, hb⟩; replace HO532 := Aside0.mk (Kd.R_below z20_2_ hb); replace HO536 := Aside0.mk (Kd.R_below z20_3_ hb); replace HO540 := Aside0.mk (Kd.R_below z20_4_ hb); have HO560 := Aside0.mk (Kd.R_lower ho0 (below_size z20_0_)); replace BK533 := bb_ BK533 z20_1_ hb; replace HB := Aside0.mk (below_step z20_0_ hb); have hcz50_0 : w49.cell? ⟨gb533, 0, none⟩ = some (.slice Ao27 t530.length co27) := (blk_cell BK533.out 0).trans rfl; have hfz50_0 := blk_frozen BK533.out 0) | (go_at_call 17; (with_reducible refine (spec_NeedlessClues.calls k _ _ t530 t562 t565 _ ?side1 ?side2 A17.out).mono ?_); (case side1 => exact zc20_9_); (case side2 => exact zc20_18_); rintro e w51 ⟨v563, rfl, ho0, hb⟩; replace HO532 := Aside0.mk (Kd.R_below z20_2_ hb); replace HO536 := Aside0.mk (Kd.R_below z20_3_ hb); replace HO540 := Aside0.mk (Kd.R_below z20_4_ hb); have HO564 := Aside0.mk (Kd.R_lower (Kd.R_new' ho0 (Kd.R_lt z20_6_)) (below_size z20_0_)); replace HO560 := Aside0.mk (Kd.R_elder' z20_6_ (Kd.R_base ho0) hb); replace BK533 := bb_ BK533 z20_1_ hb; replace HB := Aside0.mk (below_step z20_0_ hb); have hcz52_0 : w51.cell? ⟨gb533, 0, none⟩ = some (.slice Ao27 t530.length co27) := (blk_cell BK533.out 0).trans rfl; have hfz52_0 := blk_frozen BK533.out 0) | (go_at_call 18; (with_reducible refine (impl_LeftByClues.calls k _ _ t530 t566 t569 _ ?side1 ?side2 A18.out).mono ?_); (case side1 => exact zc20_9_); (case side2 => exact zc20_18_); rintro e w53 ⟨v567, rfl, ho0, hb⟩; replace HO532 := Aside0.mk (Kd.R_below z20_2_ hb); replace HO536 := Aside0.mk (Kd.R_below z20_3_ hb); replace HO540 := Aside0.mk (Kd.R_below z20_4_ hb); have HO568 := Aside0.mk (Kd.R_lower (Kd.R_new' (Kd.R_new' ho0 (Kd.R_lt z20_6_)) (Kd.R_lt z20_7_)) (below_size z20_0_)); replace HO560 := Aside0.mk (Kd.R_elder' z20_6_ (Kd.R_base ho0) hb); replace HO564 := Aside0.mk (Kd.R_elder' z20_7_ (Kd.R_base ho0) hb); replace BK533 := bb_ BK533 z20_1_ hb; replace HB := Aside0.mk (below_step z20_0_ hb); have hcz54_0 : w53.cell? ⟨gb533, 0, none⟩ = some (.slice Ao27 t530.length co27) := (blk_cell BK533.out 0).trans rfl; have hfz54_0 := blk_frozen BK533.out 0) | (go_at_call 19; (with_reducible refine (spec_LeftByClues.calls k _ _ t530 t570 t573 _ ?side1 ?side2 A19.out).mono ?_); (case side1 => exact zc20_9_); (case side2 => exact zc20_18_); rintro e w55 ⟨v571, rfl, ho0, hb⟩; replace HO532 := Aside0.mk (Kd.R_below z20_2_ hb); replace HO536 := Aside0.mk (Kd.R_below z20_3_ hb); replace HO540 := Aside0.mk (Kd.R_below z20_4_ hb); have HO572 := Aside0.mk (Kd.R_lower (Kd.R_new' (Kd.R_new' (Kd.R_new' ho0 (Kd.R_lt z20_6_)) (Kd.R_lt z20_7_)) (Kd.R_lt z20_9_)) (below_size z20_0_)); replace HO560 := Aside0.mk (Kd.R_elder' z20_6_ (Kd.R_base ho0) hb); replace HO564 := Aside0.mk (Kd.R_elder' z20_7_ (Kd.R_base ho0) hb); replace HO568 := Aside0.mk (Kd.R_elder' z20_9_ (Kd.R_base ho0) hb); replace BK533 := bb_ BK533 z20_1_ hb; replace HB := Aside0.mk (below_step z20_0_ hb); have hcz56_0 : w55.cell? ⟨gb533, 0, none⟩ = some (.slice Ao27 t530.length co27) := (blk_cell BK533.out 0).trans rfl; have hfz56_0 := blk_frozen BK533.out 0) | (go_at_call 20; (with_reducible refine (impl_BestClue.calls k _ _ t530 t574 t575 _ ?side1 ?side2 A20.out).mono ?_); (case side1 => exact zc20_9_); (case side2 => exact zc20_18_); rintro e w57 ⟨rfl, hb⟩; replace HO532 := Aside0.mk (Kd.R_below z20_2_ hb); replace HO536 := Aside0.mk (Kd.R_below z20_3_ hb); replace HO540 := Aside0.mk (Kd.R_below z20_4_ hb); replace HO560 := Aside0.mk (Kd.R_below z20_6_ hb); replace HO564 := Aside0.mk (Kd.R_below z20_7_ hb); replace HO568 := Aside0.mk (Kd.R_below z20_9_ hb); replace HO572 := Aside0.mk (Kd.R_below z20_10_ hb); replace BK533 := bb_ BK533 z20_1_ hb; replace HB := Aside0.mk (below_step z20_0_ hb); have hcz58_0 : w57.cell? ⟨gb533, 0, none⟩ = some (.slice Ao27 t530.length co27) := (blk_cell BK533.out 0).trans rfl; have hfz58_0 := blk_frozen BK533.out 0) | (go_at_call 21; (with_reducible refine (spec_BestClue.calls k _ _ t530 t576 t577 _ ?side1 ?side2 A21.out).mono ?_); (case side1 => exact zc20_9_); (case side2 => exact zc20_18_); rintro e w59 ⟨rfl, hb⟩; replace HO532 := Aside0.mk (Kd.R_below z20_2_ hb); replace HO536 := Aside0.mk (Kd.R_below z20_3_ hb); replace HO540 := Aside0.mk (Kd.R_below z20_4_ hb); replace HO560 := Aside0.mk (Kd.R_below z20_6_ hb); replace HO564 := Aside0.mk (Kd.R_below z20_7_ hb); replace HO568 := Aside0.mk (Kd.R_below z20_9_ hb); replace HO572 := Aside0.mk (Kd.R_below z20_10_ hb); replace BK533 := bb_ BK533 z20_1_ hb; replace HB := Aside0.mk (below_step z20_0_ hb); have hcz60_0 : w59.cell? ⟨gb533, 0, none⟩ = some (.slice Ao27 t530.length co27) := (blk_cell BK533.out 0).trans rfl; have hfz60_0 := blk_frozen BK533.out 0) | (go_at_call 22; (with_reducible refine (impl_PuzzleText.calls k _ _ t530 t578 t579 _ ?side1 ?side2 A22.out).mono ?_); (case side1 => exact zc20_9_); (case side2 => exact zc20_18_); rintro e w61 ⟨rfl, hb⟩; replace HO532 := Aside0.mk (Kd.R_below z20_2_ hb); replace HO536 := Aside0.mk (Kd.R_below z20_3_ hb); replace HO540 := Aside0.mk (Kd.R_below z20_4_ hb); replace HO560 := Aside0.mk (Kd.R_below z20_6_ hb); replace HO564 := Aside0.mk (Kd.R_below z20_7_ hb); replace HO568 := Aside0.mk (Kd.R_below z20_9_ hb); replace HO572 := Aside0.mk (Kd.R_below z20_10_ hb); replace BK533 := bb_ BK533 z20_1_ hb; replace HB := Aside0.mk (below_step z20_0_ hb); have hcz62_0 : w61.cell? ⟨gb533, 0, none⟩ = some (.slice Ao27 t530.length co27) := (blk_cell BK533.out 0).trans rfl; have hfz62_0 := blk_frozen BK533.out 0) | (go_at_call 23; (with_reducible refine (spec_PuzzleText.calls k _ _ t530 t580 t581 _ ?side1 ?side2 A23.out).mono ?_); (case side1 => exact zc20_9_); (case side2 => exact zc20_18_); rintro e w63 ⟨rfl, hb⟩; replace HO532 := Aside0.mk (Kd.R_below z20_2_ hb); replace HO536 := Aside0.mk (Kd.R_below z20_3_ hb); replace HO540 := Aside0.mk (Kd.R_below z20_4_ hb); replace HO560 := Aside0.mk (Kd.R_below z20_6_ hb); replace HO564 := Aside0.mk (Kd.R_below z20_7_ hb); replace HO568 := Aside0.mk (Kd.R_below z20_9_ hb); replace HO572 := Aside0.mk (Kd.R_below z20_10_ hb); replace BK533 := bb_ BK533 z20_1_ hb; replace HB := Aside0.mk (below_step z20_0_ hb))))
 (try simp only [Act.put, List.setIfInBounds_toArray, List.set_cons_zero, List.set_cons_succ])
 go_cut [311] from 63 to 311 (fun v311 wc => ∃ (kq : Nat) (x311_23 : Bool), v311 = .bool x311_23 ∧ Aside0 (laws_FnTicketsGuessed.j0 kq l1 t534 t537 t542 t546 t547 t550 t554 t558 t566 t574 t578 x311_23 t530 = some r) ∧ Aside0 (kq ≤ k) ∧ Aside0 (Kd.R Kd.string 9 wc w.heap.size (fun _ => True) v535 t534) ∧ Aside0 (Kd.R (Kd.int .i64) 3 wc w.heap.size (fun k_ => some k_ ≠ (v567 : Value).ownBlock) v559 t558) ∧ Aside0 (Kd.R (Kd.int .i64) 3 wc w.heap.size (fun k_ => some k_ ≠ (v559 : Value).ownBlock) v567 t566) ∧ Aside0 (Kd.R k46 46 wc w.heap.size (fun _ => True) (.slice Ao27 t530.length co27) t530) ∧ Aside0 (wc.heap[gb533]? = some (.cells #[(.slice Ao27 t530.length co27)] 26 (0, 0))) ∧ Aside0 (Below w.heap.size w wc))
 case first =>
  as_aux_lemma =>
  have H := HC24.out
  clear HC24
  by_cases c64 : (t537 != t541) = true
  · exact laws_FnTicketsGuessed.j0_dead ((if_pos c64).symm.trans H) hr_
  rw [if_neg c64] at H
  have c64b0 : (t537 != t541) = false := by simpa using c64
  (try (have c64b1 : decide (t537 = t541) = true := by simpa using c64))
  (try (have c64b2 : (t537 == t541) = true := by simpa using c64))
  clear c64
  (first | rw [c64b0] | (simp only [i64_w, i32_w]; rw [c64b0]) | skip)
  replace H := bd_ H; obtain ⟨t588, A65, H⟩ := H
  by_cases c66 : t588 = true
  rotate_left
  · replace H := bf_ c66 H; obtain ⟨rfl, H⟩ := H
    as_aux_lemma =>
     first | exact laws_FnTicketsGuessed.j0_dead H hr_ | exact laws_FnTicketsGuessed.j1_dead H hr_
  subst c66
  rw [if_pos rfl] at H
  by_cases c67 : (t543 != t545) = true
  · exact laws_FnTicketsGuessed.j0_dead ((if_pos c67).symm.trans H) hr_
  rw [if_neg c67] at H
  have c67b0 : (t543 != t545) = false := by simpa using c67
  (try (have c67b1 : decide (t543 = t545) = true := by simpa using c67))
  (try (have c67b2 : (t543 == t545) = true := by simpa using c67))
  clear c67
  by_cases c68 : t542 = t544
  rotate_left
  · exact laws_FnTicketsGuessed.j0_dead ((if_neg c68).symm.trans H) hr_
  replace H := ep_ c68 H; obtain ⟨H, c68b0, c68b1⟩ := H
  clear c68
  by_cases c69 : (t547 != t549) = true
  · exact laws_FnTicketsGuessed.j0_dead ((if_pos c69).symm.trans H) hr_
  rw [if_neg c69] at H
  have c69b0 : (t547 != t549) = false := by simpa using c69
  (try (have c69b1 : decide (t547 = t549) = true := by simpa using c69))
  (try (have c69b2 : (t547 == t549) = true := by simpa using c69))
  clear c69
  by_cases c70 : t546.toList = t548.toList
  rotate_left
  · exact laws_FnTicketsGuessed.j0_dead ((if_neg c70).symm.trans H) hr_
  rw [if_pos c70] at H
  have c70b0 : (t546.toList == t548.toList) = true := beq_iff_eq.mpr c70
  have c70b1 : (t546.toList != t548.toList) = false := bne_eq_false_iff_eq.mpr c70
  clear c70
  as_aux_lemma =>
  by_cases c71 : (t551 != t553) = true
  · exact laws_FnTicketsGuessed.j0_dead ((if_pos c71).symm.trans H) hr_
  rw [if_neg c71] at H
  have c71b0 : (t551 != t553) = false := by simpa using c71
  (try (have c71b1 : decide (t551 = t553) = true := by simpa using c71))
  (try (have c71b2 : (t551 == t553) = true := by simpa using c71))
  clear c71
  by_cases c72 : t550.toList = t552.toList
  rotate_left
  · exact laws_FnTicketsGuessed.j0_dead ((if_neg c72).symm.trans H) hr_
  rw [if_pos c72] at H
  have c72b0 : (t550.toList == t552.toList) = true := beq_iff_eq.mpr c72
  have c72b1 : (t550.toList != t552.toList) = false := bne_eq_false_iff_eq.mpr c72
  clear c72
  by_cases c73 : (t555 != t557) = true
  · exact laws_FnTicketsGuessed.j0_dead ((if_pos c73).symm.trans H) hr_
  rw [if_neg c73] at H
  have c73b0 : (t555 != t557) = false := by simpa using c73
  (try (have c73b1 : decide (t555 = t557) = true := by simpa using c73))
  (try (have c73b2 : (t555 == t557) = true := by simpa using c73))
  clear c73
  by_cases c74 : (t554 != t556) = true
  · exact laws_FnTicketsGuessed.j0_dead ((if_pos c74).symm.trans H) hr_
  rw [if_neg c74] at H
  have c74b0 : (t554 != t556) = false := by simpa using c74
  (try (have c74b1 : decide (t554 = t556) = true := by simpa using c74))
  (try (have c74b2 : (t554 == t556) = true := by simpa using c74))
  clear c74
  as_aux_lemma =>
  by_cases c75 : (t561 != t565) = true
  · exact laws_FnTicketsGuessed.j0_dead ((if_pos c75).symm.trans H) hr_
  rw [if_neg c75] at H
  have c75b0 : (t561 != t565) = false := by simpa using c75
  (try (have c75b1 : decide (t561 = t565) = true := by simpa using c75))
  (try (have c75b2 : (t561 == t565) = true := by simpa using c75))
  clear c75
  replace H := bd_ H; obtain ⟨t589, A76, H⟩ := H
  by_cases c77 : t589 = true
  rotate_left
  · replace H := bf_ c77 H; obtain ⟨rfl, H⟩ := H
    as_aux_lemma =>
     first | exact laws_FnTicketsGuessed.j0_dead H hr_ | exact laws_FnTicketsGuessed.j1_dead H hr_
  subst c77
  rw [if_pos rfl] at H
  by_cases c78 : (t569 != t573) = true
  · exact laws_FnTicketsGuessed.j0_dead ((if_pos c78).symm.trans H) hr_
  rw [if_neg c78] at H
  have c78b0 : (t569 != t573) = false := by simpa using c78
  (try (have c78b1 : decide (t569 = t573) = true := by simpa using c78))
  (try (have c78b2 : (t569 == t573) = true := by simpa using c78))
  clear c78
  replace H := bd_ H; obtain ⟨t590, A79, H⟩ := H
  by_cases c80 : t590 = true
  rotate_left
  · replace H := bf_ c80 H; obtain ⟨rfl, H⟩ := H
    as_aux_lemma =>
     first | exact laws_FnTicketsGuessed.j0_dead H hr_ | exact laws_FnTicketsGuessed.j1_dead H hr_
  subst c80
  rw [if_pos rfl] at H
  by_cases c81 : (t575 != t577) = true
  · exact laws_FnTicketsGuessed.j0_dead ((if_pos c81).symm.trans H) hr_
  rw [if_neg c81] at H
  have c81b0 : (t575 != t577) = false := by simpa using c81
  (try (have c81b1 : decide (t575 = t577) = true := by simpa using c81))
  (try (have c81b2 : (t575 == t577) = true := by simpa using c81))
  clear c81
  by_cases c82 : t574 = t576
  rotate_left
  · exact laws_FnTicketsGuessed.j0_dead ((if_neg c82).symm.trans H) hr_
  replace H := ep_ c82 H; obtain ⟨H, c82b0, c82b1⟩ := H
  clear c82
  by_cases c83 : (t579 != t581) = true
  · exact laws_FnTicketsGuessed.j0_dead ((if_pos c83).symm.trans H) hr_
  rw [if_neg c83] at H
  have c83b0 : (t579 != t581) = false := by simpa using c83
  (try (have c83b1 : decide (t579 = t581) = true := by simpa using c83))
  (try (have c83b2 : (t579 == t581) = true := by simpa using c83))
  clear c83
  by_cases c84 : t578.toList = t580.toList
  rotate_left
  · exact laws_FnTicketsGuessed.j0_dead ((if_neg c84).symm.trans H) hr_
  rw [if_pos c84] at H
  have c84b0 : (t578.toList == t580.toList) = true := beq_iff_eq.mpr c84
  have c84b1 : (t578.toList != t580.toList) = false := bne_eq_false_iff_eq.mpr c84
  clear c84
  as_aux_lemma =>
  replace H := bd_ H; obtain ⟨t591, A85, H⟩ := H
  by_cases c86 : (t537 != t591) = true
  · exact laws_FnTicketsGuessed.j0_dead ((if_pos c86).symm.trans H) hr_
  rw [if_neg c86] at H
  have c86b0 : (t537 != t591) = false := by simpa using c86
  (try (have c86b1 : decide (t537 = t591) = true := by simpa using c86))
  (try (have c86b2 : (t537 == t591) = true := by simpa using c86))
  clear c86
  replace H := bd_ H; obtain ⟨t592, A87, H⟩ := H
  have hq_ := Option.some.inj (A85.out.symm.trans A87.out)
  subst hq_
  replace H := bd_ H; obtain ⟨t593, A88, H⟩ := H
  by_cases c89 : (t591 != t593) = true
  · exact laws_FnTicketsGuessed.j0_dead ((if_pos c89).symm.trans H) hr_
  rw [if_neg c89] at H
  have c89b0 : (t591 != t593) = false := by simpa using c89
  (try (have c89b1 : decide (t591 = t593) = true := by simpa using c89))
  (try (have c89b2 : (t591 == t593) = true := by simpa using c89))
  clear c89
  as_aux_lemma =>
  by_cases c90 : (t543 != t537) = true
  · exact laws_FnTicketsGuessed.j0_dead ((if_pos c90).symm.trans H) hr_
  rw [if_neg c90] at H
  have c90b0 : (t543 != t537) = false := by simpa using c90
  (try (have c90b1 : decide (t543 = t537) = true := by simpa using c90))
  (try (have c90b2 : (t543 == t537) = true := by simpa using c90))
  clear c90
  by_cases c91 : t537 = true
  · subst c91
    rw [if_pos rfl] at H
    by_cases c92 : (t547 != (decide (t542 > 0))) = true
    · exact laws_FnTicketsGuessed.j0_dead ((if_pos c92).symm.trans H) hr_
    rw [if_neg c92] at H
    have c92b0 : (t547 != (decide (t542 > 0))) = false := by simpa using c92
    (try (have c92b1 : decide (t547 = (decide (t542 > 0))) = true := by simpa using c92))
    (try (have c92b2 : (t547 == (decide (t542 > 0))) = true := by simpa using c92))
    clear c92
    by_cases c93 : (t551 != t547) = true
    · exact laws_FnTicketsGuessed.j0_dead ((if_pos c93).symm.trans H) hr_
    rw [if_neg c93] at H
    have c93b0 : (t551 != t547) = false := by simpa using c93
    (try (have c93b1 : decide (t551 = t547) = true := by simpa using c93))
    (try (have c93b2 : (t551 == t547) = true := by simpa using c93))
    clear c93
    by_cases c94 : (t555 != true) = true
    · exact laws_FnTicketsGuessed.j0_dead ((if_pos c94).symm.trans H) hr_
    rw [if_neg c94] at H
    have c94b0 : (t555 != true) = false := by simpa using c94
    (try (have c94b1 : decide (t555 = true) = true := by simpa using c94))
    (try (have c94b2 : (t555 == true) = true := by simpa using c94))
    clear c94
    by_cases c95 : (t561 != true) = true
    · exact laws_FnTicketsGuessed.j0_dead ((if_pos c95).symm.trans H) hr_
    rw [if_neg c95] at H
    have c95b0 : (t561 != true) = false := by simpa using c95
    (try (have c95b1 : decide (t561 = true) = true := by simpa using c95))
    (try (have c95b2 : (t561 == true) = true := by simpa using c95))
    clear c95
    as_aux_lemma =>
    by_cases c96 : (t569 != true) = true
    · exact laws_FnTicketsGuessed.j0_dead ((if_pos c96).symm.trans H) hr_
    rw [if_neg c96] at H
    have c96b0 : (t569 != true) = false := by simpa using c96
    (try (have c96b1 : decide (t569 = true) = true := by simpa using c96))
    (try (have c96b2 : (t569 == true) = true := by simpa using c96))
    clear c96
    by_cases c97 : (t575 != (decide ((t530.length : Int) > 0))) = true
    · exact laws_FnTicketsGuessed.j0_dead ((if_pos c97).symm.trans H) hr_
    rw [if_neg c97] at H
    have c97b0 : (t575 != (decide ((t530.length : Int) > 0))) = false := by simpa using c97
    (try (have c97b1 : decide (t575 = (decide ((t530.length : Int) > 0))) = true := by simpa using c97))
    (try (have c97b2 : (t575 == (decide ((t530.length : Int) > 0))) = true := by simpa using c97))
    (try (have c97b9 : (t575 == decide (0 < t530.length)) = true := by simpa using c97b2))
    clear c97
    as_aux_lemma =>
     have H' := Aside0.mk H
     clear H
     obtain ⟨Ao98, co98, eo98⟩ := Kd.R_slice HO536.out
     subst eo98
     obtain ⟨Ao99, co99, eo99⟩ := Kd.R_slice HO540.out
     subst eo99
     obtain ⟨Ao100, co100, eo100⟩ := Kd.R_slice HO560.out
     subst eo100
     obtain ⟨Ao101, co101, eo101⟩ := Kd.R_slice HO564.out
     subst eo101
     obtain ⟨Ao102, co102, eo102⟩ := Kd.R_slice HO568.out
     subst eo102
     obtain ⟨Ao103, co103, eo103⟩ := Kd.R_slice HO572.out
     subst eo103
     have hcx0_ : ∀ x : Ext w63, x.w.cell? ⟨gb533, 0, none⟩ = some (.slice Ao27 t530.length co27) := fun x => (blk_cell (blk_below BK533.out x.h) 0).trans rfl
     (try simp only [List.append_eq, List.cons_append, List.nil_append])
     refine wp_region_ext_ (by kernel_rfl) (lexB_of (by kernel_rfl)) ?_
     repeat (go_big_quiet_step (first | (go_at_call 24; rename_i xx; (with_reducible refine (laws_iTexts.calls k _ _ t534 _ _ t538 true _ ?side1 ?side2 ?side3 ?side4 A65.out).mono ?_); (case side1 => exact (Kd.C_below (Kd.R_reads' HO536.out).2.2 xx.h)); (case side2 => exact ((Kd.R_reads' HO536.out).2.1)); (case side3 => exact (Kd.C_below (Kd.R_reads' HO540.out).2.2 xx.h)); (case side4 => exact ((Kd.R_reads' HO540.out).2.1)); rintro e we ⟨rfl, hd_⟩; exact ⟨rfl, ⟨_, below_step xx.h hd_.below⟩, rfl⟩) | (go_at_call 25; rename_i xx; (with_reducible refine (laws_iSame.calls k _ _ t558 _ _ t562 true _ ?side1 ?side2 ?side3 ?side4 A76.out).mono ?_); (case side1 => exact (Kd.C_below (Kd.R_reads' HO560.out).2.2 xx.h)); (case side2 => exact ((Kd.R_reads' HO560.out).2.1)); (case side3 => exact (Kd.C_below (Kd.R_reads' HO564.out).2.2 xx.h)); (case side4 => exact ((Kd.R_reads' HO564.out).2.1)); rintro e we ⟨rfl, hd_⟩; exact ⟨rfl, ⟨_, below_step xx.h hd_.below⟩, rfl⟩) | (go_at_call 25; rename_i xx; (with_reducible refine (laws_iSame.calls k _ _ t566 _ _ t570 true _ ?side1 ?side2 ?side3 ?side4 A79.out).mono ?_); (case side1 => exact (Kd.C_below (Kd.R_reads' HO568.out).2.2 xx.h)); (case side2 => exact ((Kd.R_reads' HO568.out).2.1)); (case side3 => exact (Kd.C_below (Kd.R_reads' HO572.out).2.2 xx.h)); (case side4 => exact ((Kd.R_reads' HO572.out).2.1)); rintro e we ⟨rfl, hd_⟩; exact ⟨rfl, ⟨_, below_step xx.h hd_.below⟩, rfl⟩) | (go_at_call 26; rename_i xx; (with_reducible refine (impl_IsPuzzle.calls k _ _ t530 t591 _ ?side1 ?side2 A85.out).mono ?_); (case side1 => exact zc20_16_); (case side2 => exact zc20_17_); rintro e we ⟨rfl, hd_⟩; exact ⟨rfl, ⟨_, below_step xx.h hd_⟩, rfl⟩) | (go_at_call 26; rename_i xx; (with_reducible refine (impl_IsPuzzle.calls k _ _ t530 t591 _ ?side1 ?side2 A87.out).mono ?_); (case side1 => exact zc20_16_); (case side2 => exact zc20_17_); rintro e we ⟨rfl, hd_⟩; exact ⟨rfl, ⟨_, below_step xx.h hd_⟩, rfl⟩) | (go_at_call 27; rename_i xx; (with_reducible refine (spec_IsPuzzle.calls k _ _ t530 t593 _ ?side1 ?side2 A88.out).mono ?_); (case side1 => exact zc20_16_); (case side2 => exact zc20_17_); rintro e we ⟨rfl, hd_⟩; exact ⟨rfl, ⟨_, below_step xx.h hd_⟩, rfl⟩)))
     refine wpQuiet_nil ?_
     intro w109 hw_
     have hb := ext_out_ hw_
     clear hw_
     replace HO532 := Aside0.mk (Kd.R_below z20_2_ hb)
     replace HO536 := Aside0.mk (Kd.R_below z20_3_ hb)
     replace HO540 := Aside0.mk (Kd.R_below z20_4_ hb)
     replace HO560 := Aside0.mk (Kd.R_below z20_6_ hb)
     replace HO564 := Aside0.mk (Kd.R_below z20_7_ hb)
     replace HO568 := Aside0.mk (Kd.R_below z20_9_ hb)
     replace HO572 := Aside0.mk (Kd.R_below z20_10_ hb)
     replace BK533 := bb_ BK533 z20_1_ hb
     replace HB := Aside0.mk (below_step z20_0_ hb)
     clear hb hcx0_
     try go_wp2
     try any_goals (exfalso; exact undef_bool_ (by with_reducible assumption))
     go_meet
     case rel => exact ⟨_, ((t579 != true)), zV_, H', ⟨by first | omega | exact Nat.le_refl _⟩, ⟨zs20_0⟩, ⟨zs20_1⟩, ⟨zs20_2⟩, ⟨rr_ HO532.out⟩, ⟨b_ BK533.out⟩, ⟨zs20_3⟩⟩
  replace H := bf_ c91 H; obtain ⟨rfl, H⟩ := H
  as_aux_lemma =>
  by_cases c111 : (t547 != false) = true
  · exact laws_FnTicketsGuessed.j0_dead ((if_pos c111).symm.trans H) hr_
  rw [if_neg c111] at H
  have c111b0 : (t547 != false) = false := by simpa using c111
  (try (have c111b1 : decide (t547 = false) = true := by simpa using c111))
  (try (have c111b2 : (t547 == false) = true := by simpa using c111))
  clear c111
  by_cases c112 : (t551 != t547) = true
  · exact laws_FnTicketsGuessed.j0_dead ((if_pos c112).symm.trans H) hr_
  rw [if_neg c112] at H
  have c112b0 : (t551 != t547) = false := by simpa using c112
  (try (have c112b1 : decide (t551 = t547) = true := by simpa using c112))
  (try (have c112b2 : (t551 == t547) = true := by simpa using c112))
  clear c112
  by_cases c113 : (t555 != false) = true
  · exact laws_FnTicketsGuessed.j0_dead ((if_pos c113).symm.trans H) hr_
  rw [if_neg c113] at H
  have c113b0 : (t555 != false) = false := by simpa using c113
  (try (have c113b1 : decide (t555 = false) = true := by simpa using c113))
  (try (have c113b2 : (t555 == false) = true := by simpa using c113))
  clear c113
  by_cases c114 : (t561 != false) = true
  · exact laws_FnTicketsGuessed.j0_dead ((if_pos c114).symm.trans H) hr_
  rw [if_neg c114] at H
  have c114b0 : (t561 != false) = false := by simpa using c114
  (try (have c114b1 : decide (t561 = false) = true := by simpa using c114))
  (try (have c114b2 : (t561 == false) = true := by simpa using c114))
  clear c114
  as_aux_lemma =>
  by_cases c115 : (t569 != false) = true
  · exact laws_FnTicketsGuessed.j0_dead ((if_pos c115).symm.trans H) hr_
  rw [if_neg c115] at H
  have c115b0 : (t569 != false) = false := by simpa using c115
  (try (have c115b1 : decide (t569 = false) = true := by simpa using c115))
  (try (have c115b2 : (t569 == false) = true := by simpa using c115))
  clear c115
  by_cases c116 : (t575 != false) = true
  · exact laws_FnTicketsGuessed.j0_dead ((if_pos c116).symm.trans H) hr_
  rw [if_neg c116] at H
  have c116b0 : (t575 != false) = false := by simpa using c116
  (try (have c116b1 : decide (t575 = false) = true := by simpa using c116))
  (try (have c116b2 : (t575 == false) = true := by simpa using c116))
  clear c116
  as_aux_lemma =>
   have H' := Aside0.mk H
   clear H
   obtain ⟨Ao117, co117, eo117⟩ := Kd.R_slice HO536.out
   subst eo117
   obtain ⟨Ao118, co118, eo118⟩ := Kd.R_slice HO540.out
   subst eo118
   obtain ⟨Ao119, co119, eo119⟩ := Kd.R_slice HO560.out
   subst eo119
   obtain ⟨Ao120, co120, eo120⟩ := Kd.R_slice HO564.out
   subst eo120
   obtain ⟨Ao121, co121, eo121⟩ := Kd.R_slice HO568.out
   subst eo121
   obtain ⟨Ao122, co122, eo122⟩ := Kd.R_slice HO572.out
   subst eo122
   have hcx0_ : ∀ x : Ext w63, x.w.cell? ⟨gb533, 0, none⟩ = some (.slice Ao27 t530.length co27) := fun x => (blk_cell (blk_below BK533.out x.h) 0).trans rfl
   (try simp only [List.append_eq, List.cons_append, List.nil_append])
   refine wp_region_ext_ (by kernel_rfl) (lexB_of (by kernel_rfl)) ?_
   repeat (go_big_quiet_step (first | (go_at_call 24; rename_i xx; (with_reducible refine (laws_iTexts.calls k _ _ t534 _ _ t538 true _ ?side1 ?side2 ?side3 ?side4 A65.out).mono ?_); (case side1 => exact (Kd.C_below (Kd.R_reads' HO536.out).2.2 xx.h)); (case side2 => exact ((Kd.R_reads' HO536.out).2.1)); (case side3 => exact (Kd.C_below (Kd.R_reads' HO540.out).2.2 xx.h)); (case side4 => exact ((Kd.R_reads' HO540.out).2.1)); rintro e we ⟨rfl, hd_⟩; exact ⟨rfl, ⟨_, below_step xx.h hd_.below⟩, rfl⟩) | (go_at_call 25; rename_i xx; (with_reducible refine (laws_iSame.calls k _ _ t558 _ _ t562 true _ ?side1 ?side2 ?side3 ?side4 A76.out).mono ?_); (case side1 => exact (Kd.C_below (Kd.R_reads' HO560.out).2.2 xx.h)); (case side2 => exact ((Kd.R_reads' HO560.out).2.1)); (case side3 => exact (Kd.C_below (Kd.R_reads' HO564.out).2.2 xx.h)); (case side4 => exact ((Kd.R_reads' HO564.out).2.1)); rintro e we ⟨rfl, hd_⟩; exact ⟨rfl, ⟨_, below_step xx.h hd_.below⟩, rfl⟩) | (go_at_call 25; rename_i xx; (with_reducible refine (laws_iSame.calls k _ _ t566 _ _ t570 true _ ?side1 ?side2 ?side3 ?side4 A79.out).mono ?_); (case side1 => exact (Kd.C_below (Kd.R_reads' HO568.out).2.2 xx.h)); (case side2 => exact ((Kd.R_reads' HO568.out).2.1)); (case side3 => exact (Kd.C_below (Kd.R_reads' HO572.out).2.2 xx.h)); (case side4 => exact ((Kd.R_reads' HO572.out).2.1)); rintro e we ⟨rfl, hd_⟩; exact ⟨rfl, ⟨_, below_step xx.h hd_.below⟩, rfl⟩) | (go_at_call 26; rename_i xx; (with_reducible refine (impl_IsPuzzle.calls k _ _ t530 t591 _ ?side1 ?side2 A85.out).mono ?_); (case side1 => exact zc20_16_); (case side2 => exact zc20_17_); rintro e we ⟨rfl, hd_⟩; exact ⟨rfl, ⟨_, below_step xx.h hd_⟩, rfl⟩) | (go_at_call 26; rename_i xx; (with_reducible refine (impl_IsPuzzle.calls k _ _ t530 t591 _ ?side1 ?side2 A87.out).mono ?_); (case side1 => exact zc20_16_); (case side2 => exact zc20_17_); rintro e we ⟨rfl, hd_⟩; exact ⟨rfl, ⟨_, below_step xx.h hd_⟩, rfl⟩) | (go_at_call 27; rename_i xx; (with_reducible refine (spec_IsPuzzle.calls k _ _ t530 t593 _ ?side1 ?side2 A88.out).mono ?_); (case side1 => exact zc20_16_); (case side2 => exact zc20_17_); rintro e we ⟨rfl, hd_⟩; exact ⟨rfl, ⟨_, below_step xx.h hd_⟩, rfl⟩)))
   refine wpQuiet_nil ?_
   intro w128 hw_
   have hb := ext_out_ hw_
   clear hw_
   replace HO532 := Aside0.mk (Kd.R_below z20_2_ hb)
   replace HO536 := Aside0.mk (Kd.R_below z20_3_ hb)
   replace HO540 := Aside0.mk (Kd.R_below z20_4_ hb)
   replace HO560 := Aside0.mk (Kd.R_below z20_6_ hb)
   replace HO564 := Aside0.mk (Kd.R_below z20_7_ hb)
   replace HO568 := Aside0.mk (Kd.R_below z20_9_ hb)
   replace HO572 := Aside0.mk (Kd.R_below z20_10_ hb)
   replace BK533 := bb_ BK533 z20_1_ hb
   replace HB := Aside0.mk (below_step z20_0_ hb)
   clear hb hcx0_
   try go_wp2
   try any_goals (exfalso; exact undef_bool_ (by with_reducible assumption))
   go_meet
   case rel => exact ⟨_, ((t579 != false)), zV_, H', ⟨by first | omega | exact Nat.le_refl _⟩, ⟨zs20_0⟩, ⟨zs20_1⟩, ⟨zs20_2⟩, ⟨rr_ HO532.out⟩, ⟨b_ BK533.out⟩, ⟨zs20_3⟩⟩
 case rest =>
  as_aux_lemma =>
  clear HC24
  obtain ⟨kq, x311_23, rfl, HA, HJ23, HO_6, HO_26, HO_30, HO_534000, BK533, HB⟩ := hcut
  cases kq with
  | zero => exact absurd HA.out (by simp [laws_FnTicketsGuessed.j0])
  | succ kj23 =>
   have H := HA.out
   clear HA
   simp only [laws_FnTicketsGuessed.j0] at H
   by_cases c141 : x311_23 = true
   · subst c141
     rw [if_pos rfl] at H
     as_aux_lemma =>
      exact dead2_ H hr_
   replace H := bf_ c141 H; obtain ⟨rfl, H⟩ := H
   have HC142 := Aside0.mk H
   clear H
   go_upto_if 312 with (fail)
   repeat (go_quiet (fail); go_upto_if 312 with (fail))
   go_cut [] from 312 to 503 (fun wc => ∃ (kq : Nat), Aside0 (laws_FnTicketsGuessed.j6 kq l1 = some r) ∧ Aside0 (kq ≤ kj23) ∧ Aside0 (Below w.heap.size w wc))
   case first =>
    as_aux_lemma =>
    have H := HC142.out
    clear HC142
    by_cases c143 : t537 = true
    · subst c143
      rw [if_pos rfl] at H
      have HC144 := Aside0.mk H
      clear H
      go_upto_region 25 with (fail)
      repeat (go_quiet (fail); go_upto_region 25 with (fail))
      go_cut [378] from 312 to 378 (fun v378 wc => ∃ (kq : Nat) (x378_143 : Bool), v378 = .bool x378_143 ∧ Aside0 (laws_FnTicketsGuessed.j1 kq l1 t534 t542 t550 t558 t566 t574 t578 x378_143 t530 = some r) ∧ Aside0 (kq ≤ kj23) ∧ Aside0 (Kd.R Kd.string 9 wc w.heap.size (fun _ => True) v535 t534) ∧ Aside0 (Kd.R (Kd.int .i64) 3 wc w.heap.size (fun k_ => some k_ ≠ (v567 : Value).ownBlock) v559 t558) ∧ Aside0 (Kd.R (Kd.int .i64) 3 wc w.heap.size (fun k_ => some k_ ≠ (v559 : Value).ownBlock) v567 t566) ∧ Aside0 (Kd.R k46 46 wc w.heap.size (fun _ => True) (.slice Ao27 t530.length co27) t530) ∧ Aside0 (wc.heap[gb533]? = some (.cells #[(.slice Ao27 t530.length co27)] 26 (0, 0))) ∧ Aside0 (Below w.heap.size w wc))
      case first =>
       as_aux_lemma =>
       have H := HC144.out
       clear HC144
       by_cases c145 : (t534.length : Int) = t542
       rotate_left
       · exact laws_FnTicketsGuessed.j1_dead ((if_neg c145).symm.trans H) hr_
       replace H := ep_ c145 H; obtain ⟨H, c145b0, c145b1⟩ := H
       clear c145
       (first | rw [c145b0] | (simp only [i64_w, i32_w]; rw [c145b0]) | skip)
       replace H := bd_ H; obtain ⟨t600, A146, H⟩ := H
       by_cases c147 : t600 = true
       rotate_left
       · replace H := bf_ c147 H; obtain ⟨rfl, H⟩ := H
         as_aux_lemma =>
          first | exact laws_FnTicketsGuessed.j0_dead H hr_ | exact laws_FnTicketsGuessed.j1_dead H hr_
       subst c147
       rw [if_pos rfl] at H
       by_cases c148 : t547 = true
       · subst c148
         rw [if_pos rfl] at H
         replace H := gd_ H; obtain ⟨c149, H⟩ := H
         have c149b0 : decide (0 < (t534.length : Int)) = true := decide_eq_true c149
         have c149b1 : decide (0 < t534.length) = true := decide_eq_true (by omega)
         clear c149
         by_cases c150 : t546.toList = (rdOf ByteArray.empty t534 0).toList
         rotate_left
         · exact laws_FnTicketsGuessed.j1_dead ((if_neg c150).symm.trans H) hr_
         rw [if_pos c150] at H
         have c150b0 : (t546.toList == (rdOf ByteArray.empty t534 0).toList) = true := beq_iff_eq.mpr c150
         have c150b1 : (t546.toList != (rdOf ByteArray.empty t534 0).toList) = false := bne_eq_false_iff_eq.mpr c150
         clear c150
         by_cases c151 : (t554 != (t542 == 1)) = true
         · exact laws_FnTicketsGuessed.j1_dead ((if_pos c151).symm.trans H) hr_
         rw [if_neg c151] at H
         have c151b0 : (t554 != (t542 == 1)) = false := by simpa using c151
         (try (have c151b1 : decide (t554 = (t542 == 1)) = true := by simpa using c151))
         (try (have c151b2 : (t554 == (t542 == 1)) = true := by simpa using c151))
         clear c151
         by_cases c152 : (t566.length : Int) = (wrap64 ((t530.length : Int) + 1))
         rotate_left
         · exact laws_FnTicketsGuessed.j1_dead ((if_neg c152).symm.trans H) hr_
         replace H := ep_ c152 H; obtain ⟨H, c152b0, c152b1⟩ := H
         clear c152
         as_aux_lemma =>
         replace H := gd_ H; obtain ⟨c153, H⟩ := H
         have c153b0 : decide (0 < (t566.length : Int)) = true := decide_eq_true c153
         have c153b1 : decide (0 < t566.length) = true := decide_eq_true (by omega)
         clear c153
         by_cases c154 : (rd t566 0) = 1296
         rotate_left
         · exact laws_FnTicketsGuessed.j1_dead ((if_neg c154).symm.trans H) hr_
         replace H := ep_ c154 H; obtain ⟨H, c154b0, c154b1⟩ := H
         clear c154
         replace H := gd_ H; obtain ⟨c155, H⟩ := H
         have c155b0 : decide (0 ≤ (t530.length : Int)) = true := decide_eq_true c155
         have c155b1 : decide (0 ≤ t530.length) = true := decide_eq_true (by omega)
         clear c155
         replace H := gd_ H; obtain ⟨c156, H⟩ := H
         have c156b0 : decide ((t530.length : Int) < (t566.length : Int)) = true := decide_eq_true c156
         have c156b1 : decide (t530.length < t566.length) = true := decide_eq_true (Int.ofNat_lt.mp c156)
         clear c156
         as_aux_lemma =>
         by_cases c157 : (rd t566 (t530.length : Int)) = t542
         rotate_left
         · exact laws_FnTicketsGuessed.j1_dead ((if_neg c157).symm.trans H) hr_
         replace H := ep_ c157 H; obtain ⟨H, c157b0, c157b1⟩ := H
         clear c157
         by_cases c158 : (t550.size : Int) = 4
         rotate_left
         · exact laws_FnTicketsGuessed.j1_dead ((if_neg c158).symm.trans H) hr_
         rw [if_pos c158] at H
         have c158b0 : ((t550.size : Int) == 4) = true := beq_iff_eq.mpr c158
         have c158b1 : ((t550.size : Int) != 4) = false := bne_eq_false_iff_eq.mpr c158
         clear c158
         by_cases c159 : t554 = true
         · subst c159
           rw [if_pos rfl] at H
           as_aux_lemma =>
            have H' := Aside0.mk H
            clear H
            obtain ⟨Ao160, co160, eo160⟩ := Kd.R_slice HO_6.out
            subst eo160
            have p601 : 0 ≤ (0 : Int) := (by omega)
            have q601 : 0 < (t534.length : Int) := of_decide_eq_true zS_
            obtain ⟨ad601, e601, hx601_0⟩ := Kd.at_string (Kd.R_reads' HO_6.out).2.2 0 p601 q601
            cases e601
            have qi601 : (0 < t534.length) = True := eq_true (by omega)
            (try rw [show ((0 : Int)).toNat = 0 from rfl] at hx601_0)
            (try rw [Addr.add_zero'] at hx601_0)
            replace p601 := eq_true p601
            replace q601 := eq_true q601
            obtain ⟨Ao161, co161, eo161⟩ := Kd.R_slice HO_30.out
            subst eo161
            have hcz162_0 : wc.cell? ⟨gb533, 0, none⟩ = some (.slice Ao27 t530.length co27) := (blk_cell BK533.out 0).trans rfl
            have hfz162_0 := blk_frozen BK533.out 0
            have p602 : 0 ≤ (0 : Int) := (by omega)
            have q602 : 0 < (t566.length : Int) := of_decide_eq_true zS_
            obtain ⟨ad602, e602, hx602_0⟩ := Kd.at_int (Kd.R_reads' HO_30.out).2.2 0 p602 q602
            cases e602
            have qi602 : (0 < t566.length) = True := eq_true (by omega)
            (try rw [show ((0 : Int)).toNat = 0 from rfl] at hx602_0)
            (try rw [Addr.add_zero'] at hx602_0)
            replace p602 := eq_true p602
            replace q602 := eq_true q602
            have p603 : 0 ≤ ((t530.length : Int) : Int) := of_decide_eq_true zS_
            have q603 : (t530.length : Int) < (t566.length : Int) := of_decide_eq_true zS_
            obtain ⟨ad603, e603, hx603_0⟩ := Kd.at_int (Kd.R_reads' HO_30.out).2.2 (t530.length : Int) p603 q603
            obtain rfl : ad602 = ad603 := (by injection e603)
            (try simp only [Go.IntWalk.toNatUp] at hx603_0)
            replace p603 := eq_true p603
            replace q603 := eq_true q603
            (try simp only [List.append_eq, List.cons_append, List.nil_append])
            refine wp_region_quietL_ ?_
            repeat (go_big_quiet_step (first | (go_at_call 28; (with_reducible refine (laws_iRisen.calls kj23 _ _ t534 true _ ?side1 ?side2 A146.out).mono ?_); (case side1 => exact zc20_13_); (case side2 => exact (Kd.R_reads' HO_6.out).2.1); rintro e w' ⟨rfl, ⟨nd, rfl⟩⟩; (try first | exact ⟨rfl, _, World.drewN_drewN _ _ _⟩ | exact ⟨rfl, _, Eq.trans (World.drewN_drewN _ _ _) (congrArg (World.drewN _) (Nat.add_assoc _ _ _))⟩))))
            refine wpQuiet_nil ?_
            intro _ hw_
            obtain ⟨nq, hw__⟩ := hw_
            subst hw__
            try go_wp2
            try any_goals (exfalso; exact undef_bool_ (by with_reducible assumption))
            go_meet
            case rel => exact ⟨_, ((t550.toList != t546.toList)), zV_, H', ⟨zs20_4⟩, ⟨rr_ HO_6.out⟩, ⟨rr_ HO_26.out⟩, ⟨rr_ HO_30.out⟩, ⟨rr_ HO_534000.out⟩, ⟨b_ BK533.out⟩, ⟨zs20_3⟩⟩
         replace H := bf_ c159 H; obtain ⟨rfl, H⟩ := H
         as_aux_lemma =>
          have H' := Aside0.mk H
          clear H
          obtain ⟨Ao163, co163, eo163⟩ := Kd.R_slice HO_6.out
          subst eo163
          have p601 : 0 ≤ (0 : Int) := (by omega)
          have q601 : 0 < (t534.length : Int) := of_decide_eq_true zS_
          obtain ⟨ad601, e601, hx601_0⟩ := Kd.at_string (Kd.R_reads' HO_6.out).2.2 0 p601 q601
          cases e601
          have qi601 : (0 < t534.length) = True := eq_true (by omega)
          (try rw [show ((0 : Int)).toNat = 0 from rfl] at hx601_0)
          (try rw [Addr.add_zero'] at hx601_0)
          replace p601 := eq_true p601
          replace q601 := eq_true q601
          obtain ⟨Ao164, co164, eo164⟩ := Kd.R_slice HO_30.out
          subst eo164
          have hcz165_0 : wc.cell? ⟨gb533, 0, none⟩ = some (.slice Ao27 t530.length co27) := (blk_cell BK533.out 0).trans rfl
          have hfz165_0 := blk_frozen BK533.out 0
          have p602 : 0 ≤ (0 : Int) := (by omega)
          have q602 : 0 < (t566.length : Int) := of_decide_eq_true zS_
          obtain ⟨ad602, e602, hx602_0⟩ := Kd.at_int (Kd.R_reads' HO_30.out).2.2 0 p602 q602
          cases e602
          have qi602 : (0 < t566.length) = True := eq_true (by omega)
          (try rw [show ((0 : Int)).toNat = 0 from rfl] at hx602_0)
          (try rw [Addr.add_zero'] at hx602_0)
          replace p602 := eq_true p602
          replace q602 := eq_true q602
          have p603 : 0 ≤ ((t530.length : Int) : Int) := of_decide_eq_true zS_
          have q603 : (t530.length : Int) < (t566.length : Int) := of_decide_eq_true zS_
          obtain ⟨ad603, e603, hx603_0⟩ := Kd.at_int (Kd.R_reads' HO_30.out).2.2 (t530.length : Int) p603 q603
          obtain rfl : ad602 = ad603 := (by injection e603)
          (try simp only [Go.IntWalk.toNatUp] at hx603_0)
          replace p603 := eq_true p603
          replace q603 := eq_true q603
          (try simp only [List.append_eq, List.cons_append, List.nil_append])
          refine wp_region_quietL_ ?_
          repeat (go_big_quiet_step (first | (go_at_call 28; (with_reducible refine (laws_iRisen.calls kj23 _ _ t534 true _ ?side1 ?side2 A146.out).mono ?_); (case side1 => exact zc20_13_); (case side2 => exact (Kd.R_reads' HO_6.out).2.1); rintro e w' ⟨rfl, ⟨nd, rfl⟩⟩; (try first | exact ⟨rfl, _, World.drewN_drewN _ _ _⟩ | exact ⟨rfl, _, Eq.trans (World.drewN_drewN _ _ _) (congrArg (World.drewN _) (Nat.add_assoc _ _ _))⟩))))
          refine wpQuiet_nil ?_
          intro _ hw_
          obtain ⟨nq, hw__⟩ := hw_
          subst hw__
          try go_wp2
          try any_goals (exfalso; exact undef_bool_ (by with_reducible assumption))
          go_meet
          case rel => exact ⟨_, (false), zV_, H', ⟨zs20_4⟩, ⟨rr_ HO_6.out⟩, ⟨rr_ HO_26.out⟩, ⟨rr_ HO_30.out⟩, ⟨rr_ HO_534000.out⟩, ⟨b_ BK533.out⟩, ⟨zs20_3⟩⟩
       replace H := bf_ c148 H; obtain ⟨rfl, H⟩ := H
       as_aux_lemma =>
       by_cases c166 : (t554 != (t542 == 1)) = true
       · exact laws_FnTicketsGuessed.j1_dead ((if_pos c166).symm.trans H) hr_
       rw [if_neg c166] at H
       have c166b0 : (t554 != (t542 == 1)) = false := by simpa using c166
       (try (have c166b1 : decide (t554 = (t542 == 1)) = true := by simpa using c166))
       (try (have c166b2 : (t554 == (t542 == 1)) = true := by simpa using c166))
       clear c166
       by_cases c167 : (t566.length : Int) = (wrap64 ((t530.length : Int) + 1))
       rotate_left
       · exact laws_FnTicketsGuessed.j1_dead ((if_neg c167).symm.trans H) hr_
       replace H := ep_ c167 H; obtain ⟨H, c167b0, c167b1⟩ := H
       clear c167
       replace H := gd_ H; obtain ⟨c168, H⟩ := H
       have c168b0 : decide (0 < (t566.length : Int)) = true := decide_eq_true c168
       have c168b1 : decide (0 < t566.length) = true := decide_eq_true (by omega)
       clear c168
       by_cases c169 : (rd t566 0) = 1296
       rotate_left
       · exact laws_FnTicketsGuessed.j1_dead ((if_neg c169).symm.trans H) hr_
       replace H := ep_ c169 H; obtain ⟨H, c169b0, c169b1⟩ := H
       clear c169
       as_aux_lemma =>
       replace H := gd_ H; obtain ⟨c170, H⟩ := H
       have c170b0 : decide (0 ≤ (t530.length : Int)) = true := decide_eq_true c170
       have c170b1 : decide (0 ≤ t530.length) = true := decide_eq_true (by omega)
       clear c170
       replace H := gd_ H; obtain ⟨c171, H⟩ := H
       have c171b0 : decide ((t530.length : Int) < (t566.length : Int)) = true := decide_eq_true c171
       have c171b1 : decide (t530.length < t566.length) = true := decide_eq_true (Int.ofNat_lt.mp c171)
       clear c171
       by_cases c172 : (rd t566 (t530.length : Int)) = t542
       rotate_left
       · exact laws_FnTicketsGuessed.j1_dead ((if_neg c172).symm.trans H) hr_
       replace H := ep_ c172 H; obtain ⟨H, c172b0, c172b1⟩ := H
       clear c172
       by_cases c173 : t554 = true
       · subst c173
         rw [if_pos rfl] at H
         as_aux_lemma =>
          have H' := Aside0.mk H
          clear H
          obtain ⟨Ao174, co174, eo174⟩ := Kd.R_slice HO_6.out
          subst eo174
          obtain ⟨Ao175, co175, eo175⟩ := Kd.R_slice HO_30.out
          subst eo175
          have hcz176_0 : wc.cell? ⟨gb533, 0, none⟩ = some (.slice Ao27 t530.length co27) := (blk_cell BK533.out 0).trans rfl
          have hfz176_0 := blk_frozen BK533.out 0
          have p604 : 0 ≤ (0 : Int) := (by omega)
          have q604 : 0 < (t566.length : Int) := of_decide_eq_true zS_
          obtain ⟨ad604, e604, hx604_0⟩ := Kd.at_int (Kd.R_reads' HO_30.out).2.2 0 p604 q604
          cases e604
          have qi604 : (0 < t566.length) = True := eq_true (by omega)
          (try rw [show ((0 : Int)).toNat = 0 from rfl] at hx604_0)
          (try rw [Addr.add_zero'] at hx604_0)
          replace p604 := eq_true p604
          replace q604 := eq_true q604
          have p605 : 0 ≤ ((t530.length : Int) : Int) := of_decide_eq_true zS_
          have q605 : (t530.length : Int) < (t566.length : Int) := of_decide_eq_true zS_
          obtain ⟨ad605, e605, hx605_0⟩ := Kd.at_int (Kd.R_reads' HO_30.out).2.2 (t530.length : Int) p605 q605
          obtain rfl : ad604 = ad605 := (by injection e605)
          (try simp only [Go.IntWalk.toNatUp] at hx605_0)
          replace p605 := eq_true p605
          replace q605 := eq_true q605
          (try simp only [List.append_eq, List.cons_append, List.nil_append])
          refine wp_region_quietL_ ?_
          repeat (go_big_quiet_step (first | (go_at_call 28; (with_reducible refine (laws_iRisen.calls kj23 _ _ t534 true _ ?side1 ?side2 A146.out).mono ?_); (case side1 => exact zc20_13_); (case side2 => exact (Kd.R_reads' HO_6.out).2.1); rintro e w' ⟨rfl, ⟨nd, rfl⟩⟩; (try first | exact ⟨rfl, _, World.drewN_drewN _ _ _⟩ | exact ⟨rfl, _, Eq.trans (World.drewN_drewN _ _ _) (congrArg (World.drewN _) (Nat.add_assoc _ _ _))⟩))))
          refine wpQuiet_nil ?_
          intro _ hw_
          obtain ⟨nq, hw__⟩ := hw_
          subst hw__
          try go_wp2
          try any_goals (exfalso; exact undef_bool_ (by with_reducible assumption))
          go_meet
          case rel => exact ⟨_, ((t550.toList != t546.toList)), zV_, H', ⟨zs20_4⟩, ⟨rr_ HO_6.out⟩, ⟨rr_ HO_26.out⟩, ⟨rr_ HO_30.out⟩, ⟨rr_ HO_534000.out⟩, ⟨b_ BK533.out⟩, ⟨zs20_3⟩⟩
       replace H := bf_ c173 H; obtain ⟨rfl, H⟩ := H
       as_aux_lemma =>
        have H' := Aside0.mk H
        clear H
        obtain ⟨Ao177, co177, eo177⟩ := Kd.R_slice HO_6.out
        subst eo177
        obtain ⟨Ao178, co178, eo178⟩ := Kd.R_slice HO_30.out
        subst eo178
        have hcz179_0 : wc.cell? ⟨gb533, 0, none⟩ = some (.slice Ao27 t530.length co27) := (blk_cell BK533.out 0).trans rfl
        have hfz179_0 := blk_frozen BK533.out 0
        have p604 : 0 ≤ (0 : Int) := (by omega)
        have q604 : 0 < (t566.length : Int) := of_decide_eq_true zS_
        obtain ⟨ad604, e604, hx604_0⟩ := Kd.at_int (Kd.R_reads' HO_30.out).2.2 0 p604 q604
        cases e604
        have qi604 : (0 < t566.length) = True := eq_true (by omega)
        (try rw [show ((0 : Int)).toNat = 0 from rfl] at hx604_0)
        (try rw [Addr.add_zero'] at hx604_0)
        replace p604 := eq_true p604
        replace q604 := eq_true q604
        have p605 : 0 ≤ ((t530.length : Int) : Int) := of_decide_eq_true zS_
        have q605 : (t530.length : Int) < (t566.length : Int) := of_decide_eq_true zS_
        obtain ⟨ad605, e605, hx605_0⟩ := Kd.at_int (Kd.R_reads' HO_30.out).2.2 (t530.length : Int) p605 q605
        obtain rfl : ad604 = ad605 := (by injection e605)
        (try simp only [Go.IntWalk.toNatUp] at hx605_0)
        replace p605 := eq_true p605
        replace q605 := eq_true q605
        (try simp only [List.append_eq, List.cons_append, List.nil_append])
        refine wp_region_quietL_ ?_
        repeat (go_big_quiet_step (first | (go_at_call 28; (with_reducible refine (laws_iRisen.calls kj23 _ _ t534 true _ ?side1 ?side2 A146.out).mono ?_); (case side1 => exact zc20_13_); (case side2 => exact (Kd.R_reads' HO_6.out).2.1); rintro e w' ⟨rfl, ⟨nd, rfl⟩⟩; (try first | exact ⟨rfl, _, World.drewN_drewN _ _ _⟩ | exact ⟨rfl, _, Eq.trans (World.drewN_drewN _ _ _) (congrArg (World.drewN _) (Nat.add_assoc _ _ _))⟩))))
        refine wpQuiet_nil ?_
        intro _ hw_
        obtain ⟨nq, hw__⟩ := hw_
        subst hw__
        try go_wp2
        try any_goals (exfalso; exact undef_bool_ (by with_reducible assumption))
        go_meet
        case rel => exact ⟨_, (false), zV_, H', ⟨zs20_4⟩, ⟨rr_ HO_6.out⟩, ⟨rr_ HO_26.out⟩, ⟨rr_ HO_30.out⟩, ⟨rr_ HO_534000.out⟩, ⟨b_ BK533.out⟩, ⟨zs20_3⟩⟩
      case rest =>
       as_aux_lemma =>
       clear HC144
       obtain ⟨kq, x378_143, rfl, HA, HJ143, HO_6, HO_26, HO_30, HO_534000, BK533, HB⟩ := hcut
       cases kq with
       | zero => exact absurd HA.out (by simp [laws_FnTicketsGuessed.j1])
       | succ kj143 =>
        have H := HA.out
        clear HA
        simp only [laws_FnTicketsGuessed.j1] at H
        by_cases c181 : x378_143 = true
        · subst c181
          rw [if_pos rfl] at H
          as_aux_lemma =>
           exact dead2_ H hr_
        replace H := bf_ c181 H; obtain ⟨rfl, H⟩ := H
        have H' := Aside0.mk H
        clear H
        obtain ⟨Ao182, co182, eo182⟩ := Kd.R_slice HO_6.out
        subst eo182
        go_wp2
        repeat (go_quiet (fail); try go_wp2)
        go_loopg [381] kj143 (fun kq v381 w' => ∃ (x381_3 : Int), v381 = .int .i64 x381_3 ∧ Aside0 (laws_FnTicketsGuessed.l0 kq l1 t542 t550 t558 t566 t574 t578 t534 (t534.length : Int) x381_3 t530 = some r) ∧ Aside0 (kq ≤ kj143) ∧ Aside0 (Kd.R (Kd.int .i64) 3 w' w.heap.size (fun k_ => some k_ ≠ (v567 : Value).ownBlock) v559 t558) ∧ Aside0 (Kd.R (Kd.int .i64) 3 w' w.heap.size (fun k_ => some k_ ≠ (v559 : Value).ownBlock) v567 t566) ∧ Aside0 (Kd.R Kd.string 9 w' w.heap.size (fun _ => True) (.slice Ao182 t534.length co182) t534) ∧ Aside0 (Kd.R k46 46 w' w.heap.size (fun _ => True) (.slice Ao27 t530.length co27) t530) ∧ Aside0 (w'.heap[gb533]? = some (.cells #[(.slice Ao27 t530.length co27)] 26 (0, 0))) ∧ Aside0 (Below w.heap.size w w'))
        case atStart => exact ⟨(0), zV_, H', ⟨Nat.le_refl _⟩, ⟨rr_ HO_26.out⟩, ⟨rr_ HO_30.out⟩, ⟨rr_ HO_6.out⟩, ⟨rr_ HO_534000.out⟩, ⟨b_ BK533.out⟩, ⟨zs20_3⟩⟩
        case round =>
         clear H'
         obtain ⟨x381_3, rfl, HA, HK3, HO_26, HO_30, HO_379, HO_534000, BK533, HB⟩ := hrel
         cases gk with
         | zero => exact absurd HA.out (by simp [laws_FnTicketsGuessed.l0])
         | succ k3 =>
          have H := HA.out
          clear HA
          simp only [laws_FnTicketsGuessed.l0] at H
          by_cases c183 : x381_3 < (t534.length : Int)
          · rw [if_pos c183] at H
            have c183b0 := decide_eq_true c183
            clear c183
            replace H := gd_ H; obtain ⟨c184, H⟩ := H
            have c184b0 : decide (0 ≤ x381_3) = true := decide_eq_true c184
            clear c184
            replace H := gd_ H; obtain ⟨c185, H⟩ := H
            have c185b0 : decide (x381_3 < (t534.length : Int)) = true := decide_eq_true c185
            clear c185
            replace H := dg_ H hr_; obtain ⟨c186, H⟩ := H
            have c186b0 : (((rdOf ByteArray.empty t534 x381_3).size : Int) == 4) = true := beq_iff_eq.mpr c186
            have c186b1 : (((rdOf ByteArray.empty t534 x381_3).size : Int) != 4) = false := bne_eq_false_iff_eq.mpr c186
            clear c186
            replace H := bd_ H; obtain ⟨t608, A187, H⟩ := H
            as_aux_lemma =>
            by_cases c188 : t608 = true
            rotate_left
            · replace H := bf_ c188 H; obtain ⟨rfl, H⟩ := H
              as_aux_lemma =>
               exact dead2_ H hr_
            subst c188
            rw [if_pos rfl] at H
            have H' := Aside0.mk H
            clear H
            have p606 : 0 ≤ (x381_3 : Int) := of_decide_eq_true zS_
            have q606 : x381_3 < (t534.length : Int) := of_decide_eq_true zS_
            obtain ⟨ad606, e606, hx606_0⟩ := Kd.at_string (Kd.R_reads' HO_379.out).2.2 x381_3 p606 q606
            cases e606
            replace p606 := eq_true p606
            replace q606 := eq_true q606
            go_wp2_with (first | (go_at_call 29; (with_reducible refine (impl_IsTicket.calls k3 (rdOf ByteArray.empty t534 x381_3) true _ A187.out).mono ?_); rintro e w' ⟨rfl, ⟨nd, rfl⟩⟩; (try first | exact ⟨rfl, _, World.drewN_drewN _ _ _⟩ | exact ⟨rfl, _, Eq.trans (World.drewN_drewN _ _ _) (congrArg (World.drewN _) (Nat.add_assoc _ _ _))⟩)))
            repeat (go_quiet (fail); try go_wp2_with (first | (go_at_call 29; (with_reducible refine (impl_IsTicket.calls k3 (rdOf ByteArray.empty t534 x381_3) true _ A187.out).mono ?_); rintro e w' ⟨rfl, ⟨nd, rfl⟩⟩; (try first | exact ⟨rfl, _, World.drewN_drewN _ _ _⟩ | exact ⟨rfl, _, Eq.trans (World.drewN_drewN _ _ _) (congrArg (World.drewN _) (Nat.add_assoc _ _ _))⟩))))
            obtain ⟨wo, hwo_⟩ : ∃ x : World, x = wr := ⟨_, rfl⟩
            subst hwo_
            have HO_26z := HO_26
            have HO_30z := HO_30
            have HO_379z := HO_379
            have HO_534000z := HO_534000
            have BK533z := BK533
            have HBz := HB
            go_loopg [] k3 (fun kq w' => ∃ (x395_4 : Int) (n395 : Nat), Aside0 (x395_4 = (n395 : Int)) ∧ Aside0 (w'.heap[wo.heap.size]? = some (.stringIter (rdOf ByteArray.empty t534 x381_3) n395)) ∧ Aside0 (laws_FnTicketsGuessed.l1 kq l1 t542 t550 t558 t566 t574 t578 x381_3 (rdOf ByteArray.empty t534 x381_3) t534 (t534.length : Int) x381_3 (rdOf ByteArray.empty t534 x381_3) x395_4 t530 = some r) ∧ Aside0 (kq ≤ k3) ∧ Aside0 (Below wo.heap.size wo w'))
            case atStart => exact ⟨(0), 0, ⟨rfl⟩, ⟨World.iter_heap _ (rdOf ByteArray.empty t534 x381_3) 0⟩, H', ⟨Nat.le_refl _⟩, ⟨by repeat (first | exact Below.refl _ _ | (with_reducible first | apply below_alloc | apply pw_below_drewN | apply below_drew1) | apply below_alloc)⟩⟩
            case round =>
             clear H'
             obtain ⟨x395_4, n395, HN395, HI395, HA, HK4, HY395⟩ := hrel
             cases gk with
             | zero => exact absurd HA.out (by simp [laws_FnTicketsGuessed.l1])
             | succ k4 =>
              have H := HA.out
              clear HA
              simp only [laws_FnTicketsGuessed.l1] at H
              by_cases c189 : x395_4 < ((rdOf ByteArray.empty t534 x381_3).size : Int)
              · rw [if_pos c189] at H
                have hc395 : n395 < (rdOf ByteArray.empty t534 x381_3).size := by have := HN395.out; omega
                have c189b0 := decide_eq_true c189
                clear c189
                replace H := gd_ H; obtain ⟨c190, H⟩ := H
                have c190b0 : decide (0 ≤ x395_4) = true := decide_eq_true c190
                clear c190
                replace H := gd_ H; obtain ⟨ca395, H⟩ := H
                have hs395 : n395 < 4611686018427387904 := by have := HN395.out; have := ca395.2; omega
                have ha395 : ((rdOf ByteArray.empty t534 x381_3)[n395]'hc395).toNat < 128 := by have h_ := ca395.1; rw [HN395.out, byte_ (rdOf ByteArray.empty t534 x381_3) n395 hc395] at h_; omega
                have hnx395 := fun ty => Lib.run_next_ascii_at (P := Tryz.prog) wr wo.heap.size (rdOf ByteArray.empty t534 x381_3) n395 ty HI395.out hc395 ha395
                rw [← HN395.out] at hnx395
                have HY1 := Aside0.mk (Lib.below_iterAt HY395.out (Nat.le_refl _) (rdOf ByteArray.empty t534 x381_3) (n395 + 1))
                have HI1 := Aside0.mk (Lib.iterAt_heap wr wo.heap.size (rdOf ByteArray.empty t534 x381_3) n395 (n395 + 1) HI395.out)
                clear HY395 HI395 ca395 ha395
                generalize wr.iterAt wo.heap.size (rdOf ByteArray.empty t534 x381_3) (n395 + 1) = wr1 at hnx395 HY1 HI1
                have HY395 := HY1
                have HI395 := HI1
                clear HY1 HI1
                have HS395 := Aside0.mk hs395
                clear hs395
                have HO_26 := Aside0.mk (Kd.R_below HO_26z.out HY395.out)
                have HO_30 := Aside0.mk (Kd.R_below HO_30z.out HY395.out)
                have HO_379 := Aside0.mk (Kd.R_below HO_379z.out HY395.out)
                have HO_534000 := Aside0.mk (Kd.R_below HO_534000z.out HY395.out)
                have BK533 := Aside0.mk (blk_below BK533z.out HY395.out)
                have HB := Aside0.mk (below_step HBz.out HY395.out)
                replace H := gd_ H; obtain ⟨c191, H⟩ := H
                have c191b0 : decide (x395_4 < (t550.size : Int)) = true := decide_eq_true c191
                clear c191
                by_cases c193 : (bt t550 x395_4) = 63
                · replace H := ep_ c193 H; obtain ⟨H, c193b0, c193b1⟩ := H
                  clear c193
                  as_aux_lemma =>
                   have H' := Aside0.mk H
                   clear H
                   have p192 : 0 ≤ (x395_4 : Int) := of_decide_eq_true zS_
                   have q192 : x395_4 < (t550.size : Int) := of_decide_eq_true zS_
                   have hx192 := bt_at t550 x395_4
                   replace p192 := eq_true p192
                   replace q192 := eq_true q192
                   go_wp2
                   repeat (go_quiet (fail); try go_wp2)
                   go_roundg k4
                   case measure => have := HJ23.out; have := HJ143.out; have := HK3.out; have := HK4.out; omega
                   case rel => exact ⟨(wrap64 (x395_4 + 1)), n395 + 1, ⟨by rw [HN395.out]; exact wrapn_ n395 HS395.out⟩, ⟨HI395.out⟩, H', ⟨zs20_5⟩, ⟨zs20_6⟩⟩
                replace H := en_ c193 H; obtain ⟨H, c193b0, c193b1⟩ := H
                as_aux_lemma =>
                replace H := gd_ H; obtain ⟨c195, H⟩ := H
                have c195b0 : decide (x395_4 < ((rdOf ByteArray.empty t534 x381_3).size : Int)) = true := decide_eq_true c195
                clear c195
                replace H := dg_ H hr_; obtain ⟨c197, H⟩ := H
                have c197b0 : ((bt t550 x395_4) == (bt (rdOf ByteArray.empty t534 x381_3) x395_4)) = true := beq_iff_eq.mpr c197
                have c197b1 : ((bt t550 x395_4) != (bt (rdOf ByteArray.empty t534 x381_3) x395_4)) = false := bne_eq_false_iff_eq.mpr c197
                clear c197
                as_aux_lemma =>
                 have H' := Aside0.mk H
                 clear H
                 have p192 : 0 ≤ (x395_4 : Int) := of_decide_eq_true zS_
                 have q192 : x395_4 < (t550.size : Int) := of_decide_eq_true zS_
                 have hx192 := bt_at t550 x395_4
                 replace p192 := eq_true p192
                 replace q192 := eq_true q192
                 have p194 : 0 ≤ (x395_4 : Int) := of_decide_eq_true zS_
                 have q194 : x395_4 < (t550.size : Int) := of_decide_eq_true zS_
                 have hx194 := bt_at t550 x395_4
                 replace p194 := eq_true p194
                 replace q194 := eq_true q194
                 have p196 : 0 ≤ (x395_4 : Int) := of_decide_eq_true zS_
                 have q196 : x395_4 < ((rdOf ByteArray.empty t534 x381_3).size : Int) := of_decide_eq_true zS_
                 have hx196 := bt_at (rdOf ByteArray.empty t534 x381_3) x395_4
                 replace p196 := eq_true p196
                 replace q196 := eq_true q196
                 go_wp2
                 repeat (go_quiet (fail); try go_wp2)
                 go_roundg k4
                 case measure => have := HJ23.out; have := HJ143.out; have := HK3.out; have := HK4.out; omega
                 case rel => exact ⟨(wrap64 (x395_4 + 1)), n395 + 1, ⟨by rw [HN395.out]; exact wrapn_ n395 HS395.out⟩, ⟨HI395.out⟩, H', ⟨zs20_5⟩, ⟨zs20_6⟩⟩
              rw [if_neg c189] at H
              have hnx395 := fun ty => Lib.run_next_end_at (P := Tryz.prog) wr wo.heap.size (rdOf ByteArray.empty t534 x381_3) n395 ty HI395.out (by have := HN395.out; omega)
              have HO_26 := Aside0.mk (Kd.R_below HO_26z.out HY395.out)
              have HO_30 := Aside0.mk (Kd.R_below HO_30z.out HY395.out)
              have HO_379 := Aside0.mk (Kd.R_below HO_379z.out HY395.out)
              have HO_534000 := Aside0.mk (Kd.R_below HO_534000z.out HY395.out)
              have BK533 := Aside0.mk (blk_below BK533z.out HY395.out)
              have HB := Aside0.mk (below_step HBz.out HY395.out)
              have c189b0 := decide_eq_false c189
              clear c189
              as_aux_lemma =>
              by_cases c198 : x381_3 > 30
              · rw [if_pos c198] at H
                have c198b0 : decide (30 < x381_3) = true := decide_eq_true c198
                clear c198
                as_aux_lemma =>
                 have H' := Aside0.mk H
                 clear H
                 go_wp2
                 repeat (go_quiet (fail); try go_wp2)
                 go_roundg k4
                 case measure => have := HJ23.out; have := HJ143.out; have := HK3.out; have := HK4.out; omega
                 case rel => exact ⟨(wrap64 (x381_3 + 1)), zV_, H', ⟨zs20_5⟩, ⟨rr_ HO_26.out⟩, ⟨rr_ HO_30.out⟩, ⟨rr_ HO_379.out⟩, ⟨rr_ HO_534000.out⟩, ⟨b_ BK533.out⟩, ⟨zs20_3⟩⟩
              rw [if_neg c198] at H
              have c198b0 : decide (30 < x381_3) = false := decide_eq_false c198
              clear c198
              have H' := Aside0.mk H
              clear H
              have hcz199_0 : wr.cell? ⟨gb533, 0, none⟩ = some (.slice Ao27 t530.length co27) := (blk_cell BK533.out 0).trans rfl
              have hfz199_0 := blk_frozen BK533.out 0
              go_wp2
              repeat (go_quiet (fail); try go_wp2)
              go_loopg [417] k4 (fun kq v417 w' => ∃ (x417_5 : Int), v417 = .int .i64 x417_5 ∧ Aside0 (laws_FnTicketsGuessed.l2 kq l1 t542 t550 t558 t566 t574 t578 (rdOf ByteArray.empty t534 x381_3) t534 (t534.length : Int) x381_3 t530 (t530.length : Int) x417_5 t530 = some r) ∧ Aside0 (kq ≤ k4) ∧ Aside0 (Kd.R (Kd.int .i64) 3 w' w.heap.size (fun k_ => some k_ ≠ (v567 : Value).ownBlock) v559 t558) ∧ Aside0 (Kd.R (Kd.int .i64) 3 w' w.heap.size (fun k_ => some k_ ≠ (v559 : Value).ownBlock) v567 t566) ∧ Aside0 (Kd.R Kd.string 9 w' w.heap.size (fun _ => True) (.slice (some ad606) t534.length co182) t534) ∧ Aside0 (Kd.R k46 46 w' w.heap.size (fun _ => True) (.slice Ao27 t530.length co27) t530) ∧ Aside0 (Kd.R k46 46 w' w.heap.size (fun _ => True) (.slice Ao27 t530.length co27) t530) ∧ Aside0 (w'.heap[gb533]? = some (.cells #[(.slice Ao27 t530.length co27)] 26 (0, 0))) ∧ Aside0 (Below w.heap.size w w'))
              case atStart => exact ⟨(0), zV_, H', ⟨Nat.le_refl _⟩, ⟨rr_ HO_26.out⟩, ⟨rr_ HO_30.out⟩, ⟨rr_ HO_379.out⟩, ⟨rr_ HO_534000.out⟩, ⟨rr_ HO_534000.out⟩, ⟨b_ BK533.out⟩, ⟨zs20_3⟩⟩
              case round =>
               clear H'
               obtain ⟨x417_5, rfl, HA, HK5, HO_26, HO_30, HO_379, HO_415, HO_534000, BK533, HB⟩ := hrel
               cases gk with
               | zero => exact absurd HA.out (by simp [laws_FnTicketsGuessed.l2])
               | succ k5 =>
                have H := HA.out
                clear HA
                simp only [laws_FnTicketsGuessed.l2] at H
                by_cases c200 : x417_5 < (t530.length : Int)
                · rw [if_pos c200] at H
                  have c200b0 := decide_eq_true c200
                  clear c200
                  replace H := gd_ H; obtain ⟨c201, H⟩ := H
                  have c201b0 : decide (0 ≤ x417_5) = true := decide_eq_true c201
                  clear c201
                  replace H := gd_ H; obtain ⟨c202, H⟩ := H
                  have c202b0 : decide (x417_5 < (t530.length : Int)) = true := decide_eq_true c202
                  clear c202
                  replace H := bd_ H; obtain ⟨⟨t611, t612⟩, A203, H⟩ := H
                  dsimp only at H
                  by_cases c204 : t612 = true
                  rotate_left
                  · replace H := bf_ c204 H; obtain ⟨rfl, H⟩ := H
                    as_aux_lemma =>
                     exact dead2_ H hr_
                  subst c204
                  rw [if_pos rfl] at H
                  by_cases c205 : t611 = true
                  rotate_left
                  · replace H := bf_ c205 H; obtain ⟨rfl, H⟩ := H
                    as_aux_lemma =>
                     exact dead2_ H hr_
                  subst c205
                  rw [if_pos rfl] at H
                  as_aux_lemma =>
                   have H' := Aside0.mk H
                   clear H
                   have p609 : 0 ≤ (x417_5 : Int) := of_decide_eq_true zS_
                   have q609 : x417_5 < (t530.length : Int) := of_decide_eq_true zS_
                   obtain ⟨ad609, e609, hx609_0, hx609_1, hx609_2⟩ := at_T46 (Kd.R_reads' HO_415.out).2.2 x417_5 p609 q609
                   cases e609
                   replace p609 := eq_true p609
                   replace q609 := eq_true q609
                   go_wp2_with (first | ((with_reducible refine gate_dst (N := 46) rfl ?_); refine bxg_ 46 #[.int .i64 0, .int .i64 0, .int .i64 0] 46 ?_; intro gb610 hg w206 hbox hb; replace HO_26 := Aside0.mk (Kd.R_below z20_18_ hb); replace HO_30 := Aside0.mk (Kd.R_below z20_19_ hb); replace HO_379 := Aside0.mk (Kd.R_below zq20_19_ hb); replace HO_415 := Aside0.mk (Kd.R_below (Kd.R_elderB zq20_18_ gb610 (Nat.le_of_eq hg.symm)) hb); replace HO_534000 := Aside0.mk (Kd.R_below (Kd.R_elderB z20_13_ gb610 (Nat.le_of_eq hg.symm)) hb); have BK610 := Aside0.mk (hbox); have GW610 : Aside0 (w.heap.size ≤ gb610) := bs_ hg z20_0_; have GE610 := GW610; replace HB := Aside0.mk (below_step z20_0_ hb); have NB533_610 := nl_ BK533 z20_1_ hg; have NB610_533 := ns_ NB533_610; replace BK533 := bb_ BK533 z20_1_ hb; clear hb hbox hg; have hnb207 := NB610_533.out; have hnc207 := NB533_610.out; have hcz208_0 : w206.cell? ⟨gb610, 0, none⟩ = some (.int .i64 0) := (blk_cell BK610.out 0).trans rfl; have hcz208_1 : w206.cell? ⟨gb610, 1, none⟩ = some (.int .i64 0) := (blk_cell BK610.out 1).trans rfl; have hcz208_2 : w206.cell? ⟨gb610, 2, none⟩ = some (.int .i64 0) := (blk_cell BK610.out 2).trans rfl; have hfz208_0 := blk_frozen BK610.out 0; have hfz208_1 := blk_frozen BK610.out 1; have hfz208_2 := blk_frozen BK610.out 2) | (go_at_call 30; (with_reducible refine (impl_DoesFit.calls k5 ((rd_T46 t530 x417_5).f0) ((rd_T46 t530 x417_5).f1) ((rd_T46 t530 x417_5).f2) (rdOf ByteArray.empty t534 x381_3) true true _ A203.out).mono ?_); rintro e w209 ⟨rfl, hb⟩; replace HO_26 := Aside0.mk (Kd.R_below zq20_4_ hb); replace HO_30 := Aside0.mk (Kd.R_below zq20_3_ hb); replace HO_379 := Aside0.mk (Kd.R_below zq20_2_ hb); replace HO_415 := Aside0.mk (Kd.R_below z20_25_ hb); replace HO_534000 := Aside0.mk (Kd.R_below z20_23_ hb); replace BK533 := bb_ BK533 z20_21_ hb; replace BK610 := Aside0.mk (blk_below (g := gb610) (o := .cells #[.int .i64 ((rd_T46 t530 x417_5).f0), .int .i64 ((rd_T46 t530 x417_5).f1), .int .i64 ((rd_T46 t530 x417_5).f2)] 46 (0, 0)) z20_14_ hb); replace HB := Aside0.mk (below_step (by repeat (first | (with_reducible first | exact HB.out | apply below_alloc | apply pw_below_drewN | apply below_drew1 | refine below_set ?_ GE533.out | refine below_set ?_ GE610.out) | exact HB.out)) hb)))
                   repeat (go_quiet (fail); try go_wp2_with (first | ((with_reducible refine gate_dst (N := 46) rfl ?_); refine bxg_ 46 #[.int .i64 0, .int .i64 0, .int .i64 0] 46 ?_; intro gb610 hg w206 hbox hb; replace HO_26 := Aside0.mk (Kd.R_below z20_18_ hb); replace HO_30 := Aside0.mk (Kd.R_below z20_19_ hb); replace HO_379 := Aside0.mk (Kd.R_below zq20_19_ hb); replace HO_415 := Aside0.mk (Kd.R_below (Kd.R_elderB zq20_18_ gb610 (Nat.le_of_eq hg.symm)) hb); replace HO_534000 := Aside0.mk (Kd.R_below (Kd.R_elderB z20_13_ gb610 (Nat.le_of_eq hg.symm)) hb); have BK610 := Aside0.mk (hbox); have GW610 : Aside0 (w.heap.size ≤ gb610) := bs_ hg z20_0_; have GE610 := GW610; replace HB := Aside0.mk (below_step z20_0_ hb); have NB533_610 := nl_ BK533 z20_1_ hg; have NB610_533 := ns_ NB533_610; replace BK533 := bb_ BK533 z20_1_ hb; clear hb hbox hg; have hnb207 := NB610_533.out; have hnc207 := NB533_610.out; have hcz208_0 : w206.cell? ⟨gb610, 0, none⟩ = some (.int .i64 0) := (blk_cell BK610.out 0).trans rfl; have hcz208_1 : w206.cell? ⟨gb610, 1, none⟩ = some (.int .i64 0) := (blk_cell BK610.out 1).trans rfl; have hcz208_2 : w206.cell? ⟨gb610, 2, none⟩ = some (.int .i64 0) := (blk_cell BK610.out 2).trans rfl; have hfz208_0 := blk_frozen BK610.out 0; have hfz208_1 := blk_frozen BK610.out 1; have hfz208_2 := blk_frozen BK610.out 2) | (go_at_call 30; (with_reducible refine (impl_DoesFit.calls k5 ((rd_T46 t530 x417_5).f0) ((rd_T46 t530 x417_5).f1) ((rd_T46 t530 x417_5).f2) (rdOf ByteArray.empty t534 x381_3) true true _ A203.out).mono ?_); rintro e w209 ⟨rfl, hb⟩; replace HO_26 := Aside0.mk (Kd.R_below zq20_4_ hb); replace HO_30 := Aside0.mk (Kd.R_below zq20_3_ hb); replace HO_379 := Aside0.mk (Kd.R_below zq20_2_ hb); replace HO_415 := Aside0.mk (Kd.R_below z20_25_ hb); replace HO_534000 := Aside0.mk (Kd.R_below z20_23_ hb); replace BK533 := bb_ BK533 z20_21_ hb; replace BK610 := Aside0.mk (blk_below (g := gb610) (o := .cells #[.int .i64 ((rd_T46 t530 x417_5).f0), .int .i64 ((rd_T46 t530 x417_5).f1), .int .i64 ((rd_T46 t530 x417_5).f2)] 46 (0, 0)) z20_14_ hb); replace HB := Aside0.mk (below_step (by repeat (first | (with_reducible first | exact HB.out | apply below_alloc | apply pw_below_drewN | apply below_drew1 | refine below_set ?_ GE533.out | refine below_set ?_ GE610.out) | exact HB.out)) hb))))
                   go_roundg k5
                   case measure => have := HJ23.out; have := HJ143.out; have := HK3.out; have := HK4.out; have := HK5.out; omega
                   case rel => exact ⟨(wrap64 (x417_5 + 1)), zV_, H', ⟨zs20_7⟩, ⟨rr_ HO_26.out⟩, ⟨rr_ HO_30.out⟩, ⟨rr_ HO_379.out⟩, ⟨by refine rr_ ?_; exact Kd.R_mono HO_415.out (fun _ hk => trivial)⟩, ⟨zs20_8⟩, ⟨b_ BK533.out⟩, ⟨by repeat (first | (with_reducible first | exact HB.out | apply below_alloc | apply pw_below_drewN | apply below_drew1 | refine below_set ?_ GE533.out | refine below_set ?_ GE610.out) | exact HB.out)⟩⟩
                rw [if_neg c200] at H
                have c200b0 := decide_eq_false c200
                clear c200
                as_aux_lemma =>
                 have H' := Aside0.mk H
                 clear H
                 go_wp2
                 repeat (go_quiet (fail); try go_wp2)
                 go_roundg k5
                 case measure => have := HJ23.out; have := HJ143.out; have := HK3.out; have := HK4.out; have := HK5.out; omega
                 case rel => exact ⟨(wrap64 (x381_3 + 1)), zV_, H', ⟨zs20_7⟩, ⟨rr_ HO_26.out⟩, ⟨rr_ HO_30.out⟩, ⟨rr_ HO_379.out⟩, ⟨rr_ HO_534000.out⟩, ⟨b_ BK533.out⟩, ⟨zs20_3⟩⟩
          rw [if_neg c183] at H
          have c183b0 := decide_eq_false c183
          clear c183
          have H' := Aside0.mk H
          clear H
          have hcz210_0 : wr.cell? ⟨gb533, 0, none⟩ = some (.slice Ao27 t530.length co27) := (blk_cell BK533.out 0).trans rfl
          have hfz210_0 := blk_frozen BK533.out 0
          go_wp2
          repeat (go_quiet (fail); try go_wp2)
          go_loopg [438] k3 (fun kq v438 w' => ∃ (x438_4 : Int), v438 = .int .i64 x438_4 ∧ Aside0 (laws_FnTicketsGuessed.l3 kq l1 t542 t558 t566 t574 t578 (t530.length : Int) x438_4 t530 = some r) ∧ Aside0 (kq ≤ k3) ∧ Aside0 (Kd.R (Kd.int .i64) 3 w' w.heap.size (fun k_ => some k_ ≠ (v567 : Value).ownBlock) v559 t558) ∧ Aside0 (Kd.R (Kd.int .i64) 3 w' w.heap.size (fun k_ => some k_ ≠ (v559 : Value).ownBlock) v567 t566) ∧ Aside0 (Kd.R k46 46 w' w.heap.size (fun _ => True) (.slice Ao27 t530.length co27) t530) ∧ Aside0 (w'.heap[gb533]? = some (.cells #[(.slice Ao27 t530.length co27)] 26 (0, 0))) ∧ Aside0 (Below w.heap.size w w'))
          case atStart => exact ⟨(0), zV_, H', ⟨Nat.le_refl _⟩, ⟨rr_ HO_26.out⟩, ⟨rr_ HO_30.out⟩, ⟨rr_ HO_534000.out⟩, ⟨b_ BK533.out⟩, ⟨zs20_3⟩⟩
          case round =>
           clear H'
           obtain ⟨x438_4, rfl, HA, HK4, HO_26, HO_30, HO_534000, BK533, HB⟩ := hrel
           cases gk with
           | zero => exact absurd HA.out (by simp [laws_FnTicketsGuessed.l3])
           | succ k4 =>
            have H := HA.out
            clear HA
            simp only [laws_FnTicketsGuessed.l3] at H
            by_cases c211 : x438_4 < (t530.length : Int)
            · rw [if_pos c211] at H
              have c211b0 := decide_eq_true c211
              clear c211
              replace H := bd_ H; obtain ⟨⟨t613, t616⟩, A212, H⟩ := H
              dsimp only at H
              replace H := bd_ H; obtain ⟨⟨t618, t619⟩, A213, H⟩ := H
              dsimp only at H
              by_cases c214 : t616 = true
              rotate_left
              · replace H := bf_ c214 H; obtain ⟨rfl, H⟩ := H
                as_aux_lemma =>
                 exact dead2_ H hr_
              subst c214
              rw [if_pos rfl] at H
              by_cases c215 : t619 = true
              rotate_left
              · replace H := bf_ c215 H; obtain ⟨rfl, H⟩ := H
                as_aux_lemma =>
                 exact dead2_ H hr_
              subst c215
              rw [if_pos rfl] at H
              replace H := bd_ H; obtain ⟨t623, A216, H⟩ := H
              by_cases c217 : (t623 != (t618 == t542)) = true
              · exact dead_ (if_pos c217) H hr_
              rw [if_neg c217] at H
              have c217b0 : (t623 != (t618 == t542)) = false := by simpa using c217
              (try (have c217b1 : decide (t623 = (t618 == t542)) = true := by simpa using c217))
              (try (have c217b2 : (t623 == (t618 == t542)) = true := by simpa using c217))
              clear c217
              obtain ⟨ji218, hji218⟩ : ∃ j_ : Int, (wrap64 (x438_4 + 1)) = j_ := ⟨_, rfl⟩
              replace H : (if 0 ≤ (ji218) then (if (ji218) < (t566.length : Int) then (if 0 ≤ x438_4 then (if x438_4 < (t566.length : Int) then (if (rd t566 (ji218)) > (rd t566 x438_4) then (some false) else (if t574 < 0 then (some false) else (if t574 ≥ (t530.length : Int) then (some false) else (laws_FnTicketsGuessed.l3 k4 l1 t542 t558 t566 t574 t578 (t530.length : Int) ji218 t530)))) else (none)) else (none)) else (none)) else (none)) = some r := by first | (rw [hji218] at H; exact H) | (simp only [hji218] at H ⊢; exact H)
              (try rw [hji218] at A212)
              (try rw [hji218] at A213)
              (try rw [hji218] at A216)
              have hji218w : (IntKind.i64.wrap (x438_4 + 1)) = ji218 := (i64_w _).trans hji218
              replace H := gd_ H; obtain ⟨c219, H⟩ := H
              have c219b0 : decide (0 ≤ (ji218)) = true := decide_eq_true c219
              clear c219
              replace H := gd_ H; obtain ⟨c220, H⟩ := H
              have c220b0 : decide ((ji218) < (t566.length : Int)) = true := decide_eq_true c220
              clear c220
              as_aux_lemma =>
              replace H := gd_ H; obtain ⟨c221, H⟩ := H
              have c221b0 : decide (0 ≤ x438_4) = true := decide_eq_true c221
              clear c221
              replace H := gd_ H; obtain ⟨c222, H⟩ := H
              have c222b0 : decide (x438_4 < (t566.length : Int)) = true := decide_eq_true c222
              clear c222
              by_cases c223 : (rd t566 (ji218)) > (rd t566 x438_4)
              · exact dead_ (if_pos c223) H hr_
              rw [if_neg c223] at H
              have c223b0 : decide ((rd t566 x438_4) < (rd t566 (ji218))) = false := decide_eq_false c223
              clear c223
              by_cases c224 : t574 < 0
              · exact dead_ (if_pos c224) H hr_
              rw [if_neg c224] at H
              have c224b0 := decide_eq_false c224
              clear c224
              by_cases c225 : t574 ≥ (t530.length : Int)
              · exact dead_ (if_pos c225) H hr_
              rw [if_neg c225] at H
              have c225b0 : decide ((t530.length : Int) ≤ t574) = false := decide_eq_false c225
              clear c225
              as_aux_lemma =>
               have H' := Aside0.mk H
               clear H
               have hcz226_0 : wr.cell? ⟨gb533, 0, none⟩ = some (.slice Ao27 t530.length co27) := (blk_cell BK533.out 0).trans rfl
               have hfz226_0 := blk_frozen BK533.out 0
               go_wp2_with (first | (go_at_call 31; (with_reducible refine (impl_DropClue.calls k4 _ _ t530 x438_4 t613 true _ ?side1 ?side2 A212.out).mono ?_); (case side1 => exact zc20_8_); (case side2 => exact (Kd.R_reads' HO_534000.out).2.1); rintro e w227 ⟨v614, rfl, ho0, hb⟩; replace HO_26 := Aside0.mk (Kd.R_below z20_18_ hb); replace HO_30 := Aside0.mk (Kd.R_below z20_19_ hb); have HO615 := Aside0.mk (Kd.R_lower (Kd.R_new' ho0 (Kd.R_lt z20_13_)) (below_size z20_0_)); replace HO_534000 := Aside0.mk (Kd.R_elder' z20_13_ (Kd.R_base ho0) hb); replace BK533 := bb_ BK533 z20_1_ hb; replace HB := Aside0.mk (below_step z20_0_ hb)) | ((with_reducible refine gate_dst (N := 50) rfl ?_); refine bxg_ 50 #[.slice none 0 0] 26 ?_; intro gb617 hg w228 hbox hb; replace HO_26 := Aside0.mk (Kd.R_below z20_18_ hb); replace HO_30 := Aside0.mk (Kd.R_below z20_19_ hb); replace HO_534000 := Aside0.mk (Kd.R_below z20_13_ hb); replace HO615 := Aside0.mk (Kd.R_below zq20_21_ hb); have BK617 := Aside0.mk (hbox); have GW617 : Aside0 (w.heap.size ≤ gb617) := bs_ hg z20_0_; have GE617 := GW617; replace HB := Aside0.mk (below_step z20_0_ hb); have NB533_617 := nl_ BK533 z20_1_ hg; have NB617_533 := ns_ NB533_617; replace BK533 := bb_ BK533 z20_1_ hb; clear hb hbox hg; obtain ⟨Ao229, co229, eo229⟩ := Kd.R_slice HO615.out; subst eo229; have hnb230 := NB617_533.out; have hnc230 := NB533_617.out; have hcz231_0 : w228.cell? ⟨gb617, 0, none⟩ = some (.slice none 0 0) := (blk_cell BK617.out 0).trans rfl; have hfz231_0 := blk_frozen BK617.out 0) | (go_at_call 8; (with_reducible refine (impl_CountSolutions.calls k4 _ _ t613 t618 true _ ?side1 ?side2 A213.out).mono ?_); (case side1 => exact zc20_5_); (case side2 => exact (Kd.R_reads' HO615.out).2.1); rintro e w232 ⟨rfl, hb⟩; replace HO_26 := Aside0.mk (Kd.R_below zq20_15_ hb); replace HO_30 := Aside0.mk (Kd.R_below zq20_14_ hb); replace HO_534000 := Aside0.mk (Kd.R_below zq20_6_ hb); replace HO615 := Aside0.mk (Kd.R_below zq20_16_ hb); replace BK533 := bb_ BK533 z20_30_ hb; replace BK617 := Aside0.mk (blk_below (g := gb617) (o := .cells #[.slice Ao229 t613.length co229] 26 (0, 0)) z20_28_ hb); replace HB := Aside0.mk (below_step (by repeat (first | (with_reducible first | exact HB.out | apply below_alloc | apply pw_below_drewN | apply below_drew1 | refine below_set ?_ GE533.out | refine below_set ?_ GE617.out) | exact HB.out)) hb); obtain ⟨Ao233, co233, eo233⟩ := Kd.R_slice HO_26.out; subst eo233) | (go_at_call 32; (with_reducible refine (laws_iHas.calls k4 _ _ t558 x438_4 t623 _ ?side1 ?side2 A216.out).mono ?_); (case side1 => exact zc20_10_); (case side2 => exact (Kd.R_reads' HO_26.out).2.1); rintro e w' ⟨rfl, ⟨nd, rfl⟩⟩; (try first | exact ⟨rfl, _, World.drewN_drewN _ _ _⟩ | exact ⟨rfl, _, Eq.trans (World.drewN_drewN _ _ _) (congrArg (World.drewN _) (Nat.add_assoc _ _ _))⟩); obtain ⟨Ao234, co234, eo234⟩ := Kd.R_slice HO_30.out; subst eo234; have p624 : 0 ≤ ((ji218) : Int) := of_decide_eq_true zS_; have q624 : (ji218) < (t566.length : Int) := of_decide_eq_true zS_; obtain ⟨ad624, e624, hx624_0⟩ := Kd.at_int (Kd.R_reads' HO_30.out).2.2 (ji218) p624 q624; cases e624; replace p624 := eq_true p624; replace q624 := eq_true q624; have p625 : 0 ≤ (x438_4 : Int) := of_decide_eq_true zS_; have q625 : x438_4 < (t566.length : Int) := of_decide_eq_true zS_; obtain ⟨ad625, e625, hx625_0⟩ := Kd.at_int (Kd.R_reads' HO_30.out).2.2 x438_4 p625 q625; obtain rfl : ad624 = ad625 := (by injection e625); replace p625 := eq_true p625; replace q625 := eq_true q625; have hcz235_0 : w232.cell? ⟨gb533, 0, none⟩ = some (.slice Ao27 t530.length co27) := (blk_cell BK533.out 0).trans rfl; have hfz235_0 := blk_frozen BK533.out 0))
               repeat (go_quiet (first | (go_at_call 32; (with_reducible refine (laws_iHas.calls k4 _ _ t558 x438_4 t623 _ ?side1 ?side2 A216.out).mono ?_); (case side1 => exact zc20_10_); (case side2 => exact (Kd.R_reads' HO_26.out).2.1); rintro e w' ⟨rfl, ⟨nd, rfl⟩⟩; (try first | exact ⟨rfl, _, World.drewN_drewN _ _ _⟩ | exact ⟨rfl, _, Eq.trans (World.drewN_drewN _ _ _) (congrArg (World.drewN _) (Nat.add_assoc _ _ _))⟩); obtain ⟨Ao234, co234, eo234⟩ := Kd.R_slice HO_30.out; subst eo234; have p624 : 0 ≤ ((ji218) : Int) := of_decide_eq_true zS_; have q624 : (ji218) < (t566.length : Int) := of_decide_eq_true zS_; obtain ⟨ad624, e624, hx624_0⟩ := Kd.at_int (Kd.R_reads' HO_30.out).2.2 (ji218) p624 q624; cases e624; replace p624 := eq_true p624; replace q624 := eq_true q624; have p625 : 0 ≤ (x438_4 : Int) := of_decide_eq_true zS_; have q625 : x438_4 < (t566.length : Int) := of_decide_eq_true zS_; obtain ⟨ad625, e625, hx625_0⟩ := Kd.at_int (Kd.R_reads' HO_30.out).2.2 x438_4 p625 q625; obtain rfl : ad624 = ad625 := (by injection e625); replace p625 := eq_true p625; replace q625 := eq_true q625; have hcz235_0 : w232.cell? ⟨gb533, 0, none⟩ = some (.slice Ao27 t530.length co27) := (blk_cell BK533.out 0).trans rfl; have hfz235_0 := blk_frozen BK533.out 0)); try go_wp2_with (first | (go_at_call 31; (with_reducible refine (impl_DropClue.calls k4 _ _ t530 x438_4 t613 true _ ?side1 ?side2 A212.out).mono ?_); (case side1 => exact zc20_8_); (case side2 => exact (Kd.R_reads' HO_534000.out).2.1); rintro e w227 ⟨v614, rfl, ho0, hb⟩; replace HO_26 := Aside0.mk (Kd.R_below z20_18_ hb); replace HO_30 := Aside0.mk (Kd.R_below z20_19_ hb); have HO615 := Aside0.mk (Kd.R_lower (Kd.R_new' ho0 (Kd.R_lt z20_13_)) (below_size z20_0_)); replace HO_534000 := Aside0.mk (Kd.R_elder' z20_13_ (Kd.R_base ho0) hb); replace BK533 := bb_ BK533 z20_1_ hb; replace HB := Aside0.mk (below_step z20_0_ hb)) | ((with_reducible refine gate_dst (N := 50) rfl ?_); refine bxg_ 50 #[.slice none 0 0] 26 ?_; intro gb617 hg w228 hbox hb; replace HO_26 := Aside0.mk (Kd.R_below z20_18_ hb); replace HO_30 := Aside0.mk (Kd.R_below z20_19_ hb); replace HO_534000 := Aside0.mk (Kd.R_below z20_13_ hb); replace HO615 := Aside0.mk (Kd.R_below zq20_21_ hb); have BK617 := Aside0.mk (hbox); have GW617 : Aside0 (w.heap.size ≤ gb617) := bs_ hg z20_0_; have GE617 := GW617; replace HB := Aside0.mk (below_step z20_0_ hb); have NB533_617 := nl_ BK533 z20_1_ hg; have NB617_533 := ns_ NB533_617; replace BK533 := bb_ BK533 z20_1_ hb; clear hb hbox hg; obtain ⟨Ao229, co229, eo229⟩ := Kd.R_slice HO615.out; subst eo229; have hnb230 := NB617_533.out; have hnc230 := NB533_617.out; have hcz231_0 : w228.cell? ⟨gb617, 0, none⟩ = some (.slice none 0 0) := (blk_cell BK617.out 0).trans rfl; have hfz231_0 := blk_frozen BK617.out 0) | (go_at_call 8; (with_reducible refine (impl_CountSolutions.calls k4 _ _ t613 t618 true _ ?side1 ?side2 A213.out).mono ?_); (case side1 => exact zc20_5_); (case side2 => exact (Kd.R_reads' HO615.out).2.1); rintro e w232 ⟨rfl, hb⟩; replace HO_26 := Aside0.mk (Kd.R_below zq20_15_ hb); replace HO_30 := Aside0.mk (Kd.R_below zq20_14_ hb); replace HO_534000 := Aside0.mk (Kd.R_below zq20_6_ hb); replace HO615 := Aside0.mk (Kd.R_below zq20_16_ hb); replace BK533 := bb_ BK533 z20_30_ hb; replace BK617 := Aside0.mk (blk_below (g := gb617) (o := .cells #[.slice Ao229 t613.length co229] 26 (0, 0)) z20_28_ hb); replace HB := Aside0.mk (below_step (by repeat (first | (with_reducible first | exact HB.out | apply below_alloc | apply pw_below_drewN | apply below_drew1 | refine below_set ?_ GE533.out | refine below_set ?_ GE617.out) | exact HB.out)) hb); obtain ⟨Ao233, co233, eo233⟩ := Kd.R_slice HO_26.out; subst eo233) | (go_at_call 32; (with_reducible refine (laws_iHas.calls k4 _ _ t558 x438_4 t623 _ ?side1 ?side2 A216.out).mono ?_); (case side1 => exact zc20_10_); (case side2 => exact (Kd.R_reads' HO_26.out).2.1); rintro e w' ⟨rfl, ⟨nd, rfl⟩⟩; (try first | exact ⟨rfl, _, World.drewN_drewN _ _ _⟩ | exact ⟨rfl, _, Eq.trans (World.drewN_drewN _ _ _) (congrArg (World.drewN _) (Nat.add_assoc _ _ _))⟩); obtain ⟨Ao234, co234, eo234⟩ := Kd.R_slice HO_30.out; subst eo234; have p624 : 0 ≤ ((ji218) : Int) := of_decide_eq_true zS_; have q624 : (ji218) < (t566.length : Int) := of_decide_eq_true zS_; obtain ⟨ad624, e624, hx624_0⟩ := Kd.at_int (Kd.R_reads' HO_30.out).2.2 (ji218) p624 q624; cases e624; replace p624 := eq_true p624; replace q624 := eq_true q624; have p625 : 0 ≤ (x438_4 : Int) := of_decide_eq_true zS_; have q625 : x438_4 < (t566.length : Int) := of_decide_eq_true zS_; obtain ⟨ad625, e625, hx625_0⟩ := Kd.at_int (Kd.R_reads' HO_30.out).2.2 x438_4 p625 q625; obtain rfl : ad624 = ad625 := (by injection e625); replace p625 := eq_true p625; replace q625 := eq_true q625; have hcz235_0 : w232.cell? ⟨gb533, 0, none⟩ = some (.slice Ao27 t530.length co27) := (blk_cell BK533.out 0).trans rfl; have hfz235_0 := blk_frozen BK533.out 0)))
               go_roundg k4
               case measure => have := HJ23.out; have := HJ143.out; have := HK3.out; have := HK4.out; omega
               case rel => exact ⟨(ji218), (by first | rfl | (simp; done) | (simp only [← hji218] <;> (first | rfl | simp)) | (simp [*]; done)), H', ⟨zs20_5⟩, ⟨rr_ HO_26.out⟩, ⟨rr_ HO_30.out⟩, ⟨zs20_8⟩, ⟨b_ BK533.out⟩, ⟨by repeat (first | (with_reducible first | exact HB.out | apply below_alloc | apply pw_below_drewN | apply below_drew1 | refine below_set ?_ GE533.out | refine below_set ?_ GE617.out) | exact HB.out)⟩⟩
            rw [if_neg c211] at H
            have c211b0 := decide_eq_false c211
            clear c211
            as_aux_lemma =>
            replace H := bd_ H; obtain ⟨⟨t626, t629⟩, A236, H⟩ := H
            dsimp only at H
            by_cases c237 : t629 = true
            rotate_left
            · replace H := bf_ c237 H; obtain ⟨rfl, H⟩ := H
              as_aux_lemma =>
               exact dead2_ H hr_
            subst c237
            rw [if_pos rfl] at H
            replace H := bd_ H; obtain ⟨t632, A238, H⟩ := H
            by_cases c239 : t632 = true
            · subst c239
              rw [if_pos rfl] at H
              as_aux_lemma =>
               have H' := Aside0.mk H
               clear H
               go_wp2_with (first | (go_at_call 33; (with_reducible refine (impl_ParsePuzzle.calls k4 t578 t626 true _ ?side1 A236.out).mono ?_); (case side1 => exact Shelf.TabOk.below HT.out z20_0_); rintro e w240 ⟨v627, rfl, ho0, hb⟩; replace HO_26 := Aside0.mk (Kd.R_below z20_18_ hb); replace HO_30 := Aside0.mk (Kd.R_below z20_19_ hb); have HO628 := Aside0.mk (Kd.R_lower (Kd.R_new' ho0 (Kd.R_lt z20_13_)) (below_size z20_0_)); replace HO_534000 := Aside0.mk (Kd.R_elder' z20_13_ (Kd.R_base ho0) hb); replace BK533 := bb_ BK533 z20_1_ hb; replace HB := Aside0.mk (below_step z20_0_ hb)) | ((with_reducible refine gate_dst (N := 54) rfl ?_); refine bxg_ 54 #[.slice none 0 0] 26 ?_; intro gb630 hg w241 hbox hb; replace HO_26 := Aside0.mk (Kd.R_below z20_18_ hb); replace HO_30 := Aside0.mk (Kd.R_below z20_19_ hb); replace HO_534000 := Aside0.mk (Kd.R_below z20_13_ hb); replace HO628 := Aside0.mk (Kd.R_below zq20_20_ hb); have BK630 := Aside0.mk (hbox); have GW630 : Aside0 (w.heap.size ≤ gb630) := bs_ hg z20_0_; have GE630 := GW630; replace HB := Aside0.mk (below_step z20_0_ hb); have NB533_630 := nl_ BK533 z20_1_ hg; have NB630_533 := ns_ NB533_630; replace BK533 := bb_ BK533 z20_1_ hb; clear hb hbox hg; obtain ⟨Ao242, co242, eo242⟩ := Kd.R_slice HO628.out; subst eo242; have hnb243 := NB630_533.out; have hnc243 := NB533_630.out; have hcz244_0 : w241.cell? ⟨gb630, 0, none⟩ = some (.slice none 0 0) := (blk_cell BK630.out 0).trans rfl; have hfz244_0 := blk_frozen BK630.out 0; have hcz245_0 : w241.cell? ⟨gb533, 0, none⟩ = some (.slice Ao27 t530.length co27) := (blk_cell BK533.out 0).trans rfl; have hfz245_0 := blk_frozen BK533.out 0) | (go_at_call 34; (with_reducible refine (laws_iPuzzle.calls k4 _ _ t626 _ _ t530 true _ ?side1 ?side2 ?side3 ?side4 A238.out).mono ?_); (case side1 => exact zc20_6_); (case side2 => exact (Kd.R_reads' HO628.out).2.1); (case side3 => exact zc20_0_); (case side4 => exact (Kd.R_reads' HO_534000.out).2.1); rintro e w246 ⟨rfl, hb⟩; replace HO_26 := Aside0.mk (Kd.R_below zq20_12_ hb); replace HO_30 := Aside0.mk (Kd.R_below zq20_11_ hb); replace HO_534000 := Aside0.mk (Kd.R_below zq20_5_ hb); replace HO628 := Aside0.mk (Kd.R_below zq20_13_ hb); replace BK533 := bb_ BK533 z20_31_ hb; replace BK630 := Aside0.mk (blk_below (g := gb630) (o := .cells #[.slice Ao242 t626.length co242] 26 (0, 0)) z20_29_ hb); replace HB := Aside0.mk (below_step (by repeat (first | (with_reducible first | exact HB.out | apply below_alloc | apply pw_below_drewN | apply below_drew1 | refine below_set ?_ GE533.out | refine below_set ?_ GE630.out) | exact HB.out)) hb)))
               repeat (go_quiet (fail); try go_wp2_with (first | (go_at_call 33; (with_reducible refine (impl_ParsePuzzle.calls k4 t578 t626 true _ ?side1 A236.out).mono ?_); (case side1 => exact Shelf.TabOk.below HT.out z20_0_); rintro e w240 ⟨v627, rfl, ho0, hb⟩; replace HO_26 := Aside0.mk (Kd.R_below z20_18_ hb); replace HO_30 := Aside0.mk (Kd.R_below z20_19_ hb); have HO628 := Aside0.mk (Kd.R_lower (Kd.R_new' ho0 (Kd.R_lt z20_13_)) (below_size z20_0_)); replace HO_534000 := Aside0.mk (Kd.R_elder' z20_13_ (Kd.R_base ho0) hb); replace BK533 := bb_ BK533 z20_1_ hb; replace HB := Aside0.mk (below_step z20_0_ hb)) | ((with_reducible refine gate_dst (N := 54) rfl ?_); refine bxg_ 54 #[.slice none 0 0] 26 ?_; intro gb630 hg w241 hbox hb; replace HO_26 := Aside0.mk (Kd.R_below z20_18_ hb); replace HO_30 := Aside0.mk (Kd.R_below z20_19_ hb); replace HO_534000 := Aside0.mk (Kd.R_below z20_13_ hb); replace HO628 := Aside0.mk (Kd.R_below zq20_20_ hb); have BK630 := Aside0.mk (hbox); have GW630 : Aside0 (w.heap.size ≤ gb630) := bs_ hg z20_0_; have GE630 := GW630; replace HB := Aside0.mk (below_step z20_0_ hb); have NB533_630 := nl_ BK533 z20_1_ hg; have NB630_533 := ns_ NB533_630; replace BK533 := bb_ BK533 z20_1_ hb; clear hb hbox hg; obtain ⟨Ao242, co242, eo242⟩ := Kd.R_slice HO628.out; subst eo242; have hnb243 := NB630_533.out; have hnc243 := NB533_630.out; have hcz244_0 : w241.cell? ⟨gb630, 0, none⟩ = some (.slice none 0 0) := (blk_cell BK630.out 0).trans rfl; have hfz244_0 := blk_frozen BK630.out 0; have hcz245_0 : w241.cell? ⟨gb533, 0, none⟩ = some (.slice Ao27 t530.length co27) := (blk_cell BK533.out 0).trans rfl; have hfz245_0 := blk_frozen BK533.out 0) | (go_at_call 34; (with_reducible refine (laws_iPuzzle.calls k4 _ _ t626 _ _ t530 true _ ?side1 ?side2 ?side3 ?side4 A238.out).mono ?_); (case side1 => exact zc20_6_); (case side2 => exact (Kd.R_reads' HO628.out).2.1); (case side3 => exact zc20_0_); (case side4 => exact (Kd.R_reads' HO_534000.out).2.1); rintro e w246 ⟨rfl, hb⟩; replace HO_26 := Aside0.mk (Kd.R_below zq20_12_ hb); replace HO_30 := Aside0.mk (Kd.R_below zq20_11_ hb); replace HO_534000 := Aside0.mk (Kd.R_below zq20_5_ hb); replace HO628 := Aside0.mk (Kd.R_below zq20_13_ hb); replace BK533 := bb_ BK533 z20_31_ hb; replace BK630 := Aside0.mk (blk_below (g := gb630) (o := .cells #[.slice Ao242 t626.length co242] 26 (0, 0)) z20_29_ hb); replace HB := Aside0.mk (below_step (by repeat (first | (with_reducible first | exact HB.out | apply below_alloc | apply pw_below_drewN | apply below_drew1 | refine below_set ?_ GE533.out | refine below_set ?_ GE630.out) | exact HB.out)) hb))))
               try any_goals (exfalso; exact undef_bool_ (by with_reducible assumption))
               go_meet
               case rel => exact ⟨_, H', ⟨by have := HJ23.out; have := HJ143.out; have := HK3.out; have := HK4.out; first | omega | exact Nat.le_refl _⟩, ⟨by repeat (first | (with_reducible first | exact HB.out | apply below_alloc | apply pw_below_drewN | apply below_drew1 | refine below_set ?_ GE533.out | refine below_set ?_ GE630.out) | exact HB.out)⟩⟩
            replace H := bf_ c239 H; obtain ⟨rfl, H⟩ := H
            as_aux_lemma =>
             exact dead2_ H hr_
    replace H := bf_ c143 H; obtain ⟨rfl, H⟩ := H
    as_aux_lemma =>
     have H' := Aside0.mk H
     clear H
     go_wp2
     repeat (go_quiet (fail); try go_wp2)
     try any_goals (exfalso; exact undef_bool_ (by with_reducible assumption))
     go_meet
     case rel => exact ⟨_, H', ⟨zs20_4⟩, ⟨zs20_3⟩⟩
   case rest =>
    as_aux_lemma =>
    clear HC142
    obtain ⟨kq, HA, HJ141, HB⟩ := hcut
    cases kq with
    | zero => exact absurd HA.out (by simp [laws_FnTicketsGuessed.j6])
    | succ kj141 =>
     have H := HA.out
     clear HA
     simp only [laws_FnTicketsGuessed.j6] at H
     replace H := bd_ H; obtain ⟨t633, A247, H⟩ := H
     replace H := bd_ H; obtain ⟨⟨t634, t637⟩, A248, H⟩ := H
     dsimp only at H
     replace H := bd_ H; obtain ⟨⟨t639, t642⟩, A249, H⟩ := H
     dsimp only at H
     by_cases c250 : (t637 != t642) = true
     · exact dead_ (if_pos c250) H hr_
     rw [if_neg c250] at H
     have c250b0 : (t637 != t642) = false := by simpa using c250
     (try (have c250b1 : decide (t637 = t642) = true := by simpa using c250))
     (try (have c250b2 : (t637 == t642) = true := by simpa using c250))
     clear c250
     replace H := bd_ H; obtain ⟨t645, A251, H⟩ := H
     as_aux_lemma =>
     by_cases c252 : t645 = true
     rotate_left
     · replace H := bf_ c252 H; obtain ⟨rfl, H⟩ := H
       as_aux_lemma =>
        exact dead2_ H hr_
     subst c252
     rw [if_pos rfl] at H
     by_cases c253 : t637 = true
     · subst c253
       rw [if_pos rfl] at H
       replace H := bd_ H; obtain ⟨⟨t646, t647⟩, A254, H⟩ := H
       dsimp only at H
       by_cases c255 : t647 = true
       · subst c255
         rw [if_pos rfl] at H
         as_aux_lemma =>
          obtain rfl := Option.some.inj H
          go_wp2_with (first | (go_at_call 35; (with_reducible refine (spec_DrawParsePuzzle.calls kj141 _ _ l1 t633 _ ?side1 ?side2 A247.out).mono ?_); (case side1 => exact zc20_11_); (case side2 => exact HC1.out); rintro e w256 ⟨rfl, hb⟩; replace HB := Aside0.mk (below_step zB_ hb)) | (go_at_call 33; (with_reducible refine (impl_ParsePuzzle.calls kj141 t633 t634 true _ ?side1 A248.out).mono ?_); (case side1 => exact Shelf.TabOk.below HT.out zB_); rintro e w257 ⟨v635, rfl, ho0, hb⟩; have HO636 := Aside0.mk (Kd.R_lower ho0 (below_size zB_)); replace HB := Aside0.mk (below_step zB_ hb)) | ((with_reducible refine gate_dst (N := 57) rfl ?_); refine bxg_ 57 #[.slice none 0 0] 26 ?_; intro gb638 hg w258 hbox hb; replace HO636 := Aside0.mk (Kd.R_below z20_20_ hb); have BK638 := Aside0.mk (hbox); have GW638 : Aside0 (w.heap.size ≤ gb638) := bs_ hg zB_; have GE638 := GW638; replace HB := Aside0.mk (below_step zB_ hb); clear hb hbox hg; obtain ⟨Ao259, co259, eo259⟩ := Kd.R_slice HO636.out; subst eo259; have hcz260_0 : w258.cell? ⟨gb638, 0, none⟩ = some (.slice none 0 0) := (blk_cell BK638.out 0).trans rfl; have hfz260_0 := blk_frozen BK638.out 0) | (go_at_call 36; (with_reducible refine (spec_ParsePuzzle.calls kj141 t633 t639 t642 _ A249.out).mono ?_); rintro e w261 ⟨v640, rfl, ho0, hb⟩; have HO641 := Aside0.mk (Kd.R_lower (Kd.R_new' ho0 (Kd.R_lt zq20_1_)) (below_size z20_8_)); replace HO636 := Aside0.mk (Kd.R_elder' zq20_1_ (Kd.R_base ho0) hb); replace BK638 := Aside0.mk (blk_below (g := gb638) (o := .cells #[.slice Ao259 t634.length co259] 26 (0, 0)) z20_16_ hb); replace HB := Aside0.mk (below_step z20_8_ hb)) | ((with_reducible refine gate_dst (N := 59) rfl ?_); refine bxg_ 59 #[.slice none 0 0] 26 ?_; intro gb643 hg w262 hbox hb; replace HO636 := Aside0.mk (Kd.R_below z20_20_ hb); replace HO641 := Aside0.mk (Kd.R_below z20_26_ hb); have BK643 := Aside0.mk (hbox); have GW643 : Aside0 (w.heap.size ≤ gb643) := bs_ hg z20_8_; have GE643 := GW643; replace HB := Aside0.mk (below_step z20_8_ hb); have NB638_643 := nl_ BK638 z20_12_ hg; have NB643_638 := ns_ NB638_643; replace BK638 := bb_ BK638 z20_12_ hb; clear hb hbox hg; obtain ⟨Ao263, co263, eo263⟩ := Kd.R_slice HO641.out; subst eo263; have hnb264 := NB643_638.out; have hnc264 := NB638_643.out; have hcz265_0 : w262.cell? ⟨gb643, 0, none⟩ = some (.slice none 0 0) := (blk_cell BK643.out 0).trans rfl; have hfz265_0 := blk_frozen BK643.out 0; have hcz266_0 : w262.cell? ⟨gb638, 0, none⟩ = some (.slice Ao259 t634.length co259) := (blk_cell BK638.out 0).trans rfl; have hfz266_0 := blk_frozen BK638.out 0) | (go_at_call 34; (with_reducible refine (laws_iPuzzle.calls kj141 _ _ t634 _ _ t639 true _ ?side1 ?side2 ?side3 ?side4 A251.out).mono ?_); (case side1 => exact zc20_1_); (case side2 => exact zc20_19_); (case side3 => exact zc20_2_); (case side4 => exact (Kd.R_reads' HO641.out).2.1); rintro e w267 ⟨rfl, hb⟩; replace HO636 := Aside0.mk (Kd.R_below zq20_10_ hb); replace HO641 := Aside0.mk (Kd.R_below zq20_8_ hb); replace BK638 := bb_ BK638 z20_22_ hb; replace BK643 := Aside0.mk (blk_below (g := gb643) (o := .cells #[.slice Ao263 t639.length co263] 26 (0, 0)) z20_17_ hb); replace HB := Aside0.mk (below_step z20_15_ hb); have hcz268_0 : w267.cell? ⟨gb638, 0, none⟩ = some (.slice Ao259 t634.length co259) := (blk_cell BK638.out 0).trans rfl; have hfz268_0 := blk_frozen BK638.out 0) | (go_at_call 22; (with_reducible refine (impl_PuzzleText.calls kj141 _ _ t634 t646 true _ ?side1 ?side2 A254.out).mono ?_); (case side1 => exact zc20_12_); (case side2 => exact zc20_19_); rintro e w269 ⟨rfl, hb⟩; replace HO636 := Aside0.mk (Kd.R_below z20_20_ hb); replace HO641 := Aside0.mk (Kd.R_below z20_26_ hb); replace BK638 := bb_ BK638 z20_12_ hb; replace BK643 := bb_ BK643 (b_ BK643.out) hb; replace HB := Aside0.mk (below_step z20_15_ hb)))
          repeat (go_quiet (fail); try go_wp2_with (first | (go_at_call 35; (with_reducible refine (spec_DrawParsePuzzle.calls kj141 _ _ l1 t633 _ ?side1 ?side2 A247.out).mono ?_); (case side1 => exact zc20_11_); (case side2 => exact HC1.out); rintro e w256 ⟨rfl, hb⟩; replace HB := Aside0.mk (below_step zB_ hb)) | (go_at_call 33; (with_reducible refine (impl_ParsePuzzle.calls kj141 t633 t634 true _ ?side1 A248.out).mono ?_); (case side1 => exact Shelf.TabOk.below HT.out zB_); rintro e w257 ⟨v635, rfl, ho0, hb⟩; have HO636 := Aside0.mk (Kd.R_lower ho0 (below_size zB_)); replace HB := Aside0.mk (below_step zB_ hb)) | ((with_reducible refine gate_dst (N := 57) rfl ?_); refine bxg_ 57 #[.slice none 0 0] 26 ?_; intro gb638 hg w258 hbox hb; replace HO636 := Aside0.mk (Kd.R_below z20_20_ hb); have BK638 := Aside0.mk (hbox); have GW638 : Aside0 (w.heap.size ≤ gb638) := bs_ hg zB_; have GE638 := GW638; replace HB := Aside0.mk (below_step zB_ hb); clear hb hbox hg; obtain ⟨Ao259, co259, eo259⟩ := Kd.R_slice HO636.out; subst eo259; have hcz260_0 : w258.cell? ⟨gb638, 0, none⟩ = some (.slice none 0 0) := (blk_cell BK638.out 0).trans rfl; have hfz260_0 := blk_frozen BK638.out 0) | (go_at_call 36; (with_reducible refine (spec_ParsePuzzle.calls kj141 t633 t639 t642 _ A249.out).mono ?_); rintro e w261 ⟨v640, rfl, ho0, hb⟩; have HO641 := Aside0.mk (Kd.R_lower (Kd.R_new' ho0 (Kd.R_lt zq20_1_)) (below_size z20_8_)); replace HO636 := Aside0.mk (Kd.R_elder' zq20_1_ (Kd.R_base ho0) hb); replace BK638 := Aside0.mk (blk_below (g := gb638) (o := .cells #[.slice Ao259 t634.length co259] 26 (0, 0)) z20_16_ hb); replace HB := Aside0.mk (below_step z20_8_ hb)) | ((with_reducible refine gate_dst (N := 59) rfl ?_); refine bxg_ 59 #[.slice none 0 0] 26 ?_; intro gb643 hg w262 hbox hb; replace HO636 := Aside0.mk (Kd.R_below z20_20_ hb); replace HO641 := Aside0.mk (Kd.R_below z20_26_ hb); have BK643 := Aside0.mk (hbox); have GW643 : Aside0 (w.heap.size ≤ gb643) := bs_ hg z20_8_; have GE643 := GW643; replace HB := Aside0.mk (below_step z20_8_ hb); have NB638_643 := nl_ BK638 z20_12_ hg; have NB643_638 := ns_ NB638_643; replace BK638 := bb_ BK638 z20_12_ hb; clear hb hbox hg; obtain ⟨Ao263, co263, eo263⟩ := Kd.R_slice HO641.out; subst eo263; have hnb264 := NB643_638.out; have hnc264 := NB638_643.out; have hcz265_0 : w262.cell? ⟨gb643, 0, none⟩ = some (.slice none 0 0) := (blk_cell BK643.out 0).trans rfl; have hfz265_0 := blk_frozen BK643.out 0; have hcz266_0 : w262.cell? ⟨gb638, 0, none⟩ = some (.slice Ao259 t634.length co259) := (blk_cell BK638.out 0).trans rfl; have hfz266_0 := blk_frozen BK638.out 0) | (go_at_call 34; (with_reducible refine (laws_iPuzzle.calls kj141 _ _ t634 _ _ t639 true _ ?side1 ?side2 ?side3 ?side4 A251.out).mono ?_); (case side1 => exact zc20_1_); (case side2 => exact zc20_19_); (case side3 => exact zc20_2_); (case side4 => exact (Kd.R_reads' HO641.out).2.1); rintro e w267 ⟨rfl, hb⟩; replace HO636 := Aside0.mk (Kd.R_below zq20_10_ hb); replace HO641 := Aside0.mk (Kd.R_below zq20_8_ hb); replace BK638 := bb_ BK638 z20_22_ hb; replace BK643 := Aside0.mk (blk_below (g := gb643) (o := .cells #[.slice Ao263 t639.length co263] 26 (0, 0)) z20_17_ hb); replace HB := Aside0.mk (below_step z20_15_ hb); have hcz268_0 : w267.cell? ⟨gb638, 0, none⟩ = some (.slice Ao259 t634.length co259) := (blk_cell BK638.out 0).trans rfl; have hfz268_0 := blk_frozen BK638.out 0) | (go_at_call 22; (with_reducible refine (impl_PuzzleText.calls kj141 _ _ t634 t646 true _ ?side1 ?side2 A254.out).mono ?_); (case side1 => exact zc20_12_); (case side2 => exact zc20_19_); rintro e w269 ⟨rfl, hb⟩; replace HO636 := Aside0.mk (Kd.R_below z20_20_ hb); replace HO641 := Aside0.mk (Kd.R_below z20_26_ hb); replace BK638 := bb_ BK638 z20_12_ hb; replace BK643 := bb_ BK643 (b_ BK643.out) hb; replace HB := Aside0.mk (below_step z20_15_ hb))))
          go_ret
          exact ⟨zL_, zs20_9⟩
       replace H := bf_ c255 H; obtain ⟨rfl, H⟩ := H
       as_aux_lemma =>
        exact dead2_ H hr_
     replace H := bf_ c253 H; obtain ⟨rfl, H⟩ := H
     as_aux_lemma =>
      obtain rfl := Option.some.inj H
      go_wp2_with (first | (go_at_call 35; (with_reducible refine (spec_DrawParsePuzzle.calls kj141 _ _ l1 t633 _ ?side1 ?side2 A247.out).mono ?_); (case side1 => exact zc20_11_); (case side2 => exact HC1.out); rintro e w270 ⟨rfl, hb⟩; replace HB := Aside0.mk (below_step zB_ hb)) | (go_at_call 33; (with_reducible refine (impl_ParsePuzzle.calls kj141 t633 t634 false _ ?side1 A248.out).mono ?_); (case side1 => exact Shelf.TabOk.below HT.out zB_); rintro e w271 ⟨v635, rfl, ho0, hb⟩; have HO636 := Aside0.mk (Kd.R_lower ho0 (below_size zB_)); replace HB := Aside0.mk (below_step zB_ hb)) | ((with_reducible refine gate_dst (N := 57) rfl ?_); refine bxg_ 57 #[.slice none 0 0] 26 ?_; intro gb638 hg w272 hbox hb; replace HO636 := Aside0.mk (Kd.R_below z20_20_ hb); have BK638 := Aside0.mk (hbox); have GW638 : Aside0 (w.heap.size ≤ gb638) := bs_ hg zB_; have GE638 := GW638; replace HB := Aside0.mk (below_step zB_ hb); clear hb hbox hg; obtain ⟨Ao273, co273, eo273⟩ := Kd.R_slice HO636.out; subst eo273; have hcz274_0 : w272.cell? ⟨gb638, 0, none⟩ = some (.slice none 0 0) := (blk_cell BK638.out 0).trans rfl; have hfz274_0 := blk_frozen BK638.out 0) | (go_at_call 36; (with_reducible refine (spec_ParsePuzzle.calls kj141 t633 t639 t642 _ A249.out).mono ?_); rintro e w275 ⟨v640, rfl, ho0, hb⟩; have HO641 := Aside0.mk (Kd.R_lower (Kd.R_new' ho0 (Kd.R_lt zq20_0_)) (below_size z20_8_)); replace HO636 := Aside0.mk (Kd.R_elder' zq20_0_ (Kd.R_base ho0) hb); replace BK638 := Aside0.mk (blk_below (g := gb638) (o := .cells #[.slice Ao273 t634.length co273] 26 (0, 0)) z20_16_ hb); replace HB := Aside0.mk (below_step z20_8_ hb)) | ((with_reducible refine gate_dst (N := 59) rfl ?_); refine bxg_ 59 #[.slice none 0 0] 26 ?_; intro gb643 hg w276 hbox hb; replace HO636 := Aside0.mk (Kd.R_below z20_20_ hb); replace HO641 := Aside0.mk (Kd.R_below z20_26_ hb); have BK643 := Aside0.mk (hbox); have GW643 : Aside0 (w.heap.size ≤ gb643) := bs_ hg z20_8_; have GE643 := GW643; replace HB := Aside0.mk (below_step z20_8_ hb); have NB638_643 := nl_ BK638 z20_12_ hg; have NB643_638 := ns_ NB638_643; replace BK638 := bb_ BK638 z20_12_ hb; clear hb hbox hg; obtain ⟨Ao277, co277, eo277⟩ := Kd.R_slice HO641.out; subst eo277; have hnb278 := NB643_638.out; have hnc278 := NB638_643.out; have hcz279_0 : w276.cell? ⟨gb643, 0, none⟩ = some (.slice none 0 0) := (blk_cell BK643.out 0).trans rfl; have hfz279_0 := blk_frozen BK643.out 0; have hcz280_0 : w276.cell? ⟨gb638, 0, none⟩ = some (.slice Ao273 t634.length co273) := (blk_cell BK638.out 0).trans rfl; have hfz280_0 := blk_frozen BK638.out 0) | (go_at_call 34; (with_reducible refine (laws_iPuzzle.calls kj141 _ _ t634 _ _ t639 true _ ?side1 ?side2 ?side3 ?side4 A251.out).mono ?_); (case side1 => exact zc20_3_); (case side2 => exact zc20_19_); (case side3 => exact zc20_4_); (case side4 => exact (Kd.R_reads' HO641.out).2.1); rintro e w281 ⟨rfl, hb⟩; replace HO636 := Aside0.mk (Kd.R_below zq20_9_ hb); replace HO641 := Aside0.mk (Kd.R_below zq20_7_ hb); replace BK638 := bb_ BK638 z20_22_ hb; replace BK643 := Aside0.mk (blk_below (g := gb643) (o := .cells #[.slice Ao277 t639.length co277] 26 (0, 0)) z20_17_ hb); replace HB := Aside0.mk (below_step z20_15_ hb)))
      repeat (go_quiet (fail); try go_wp2_with (first | (go_at_call 35; (with_reducible refine (spec_DrawParsePuzzle.calls kj141 _ _ l1 t633 _ ?side1 ?side2 A247.out).mono ?_); (case side1 => exact zc20_11_); (case side2 => exact HC1.out); rintro e w270 ⟨rfl, hb⟩; replace HB := Aside0.mk (below_step zB_ hb)) | (go_at_call 33; (with_reducible refine (impl_ParsePuzzle.calls kj141 t633 t634 false _ ?side1 A248.out).mono ?_); (case side1 => exact Shelf.TabOk.below HT.out zB_); rintro e w271 ⟨v635, rfl, ho0, hb⟩; have HO636 := Aside0.mk (Kd.R_lower ho0 (below_size zB_)); replace HB := Aside0.mk (below_step zB_ hb)) | ((with_reducible refine gate_dst (N := 57) rfl ?_); refine bxg_ 57 #[.slice none 0 0] 26 ?_; intro gb638 hg w272 hbox hb; replace HO636 := Aside0.mk (Kd.R_below z20_20_ hb); have BK638 := Aside0.mk (hbox); have GW638 : Aside0 (w.heap.size ≤ gb638) := bs_ hg zB_; have GE638 := GW638; replace HB := Aside0.mk (below_step zB_ hb); clear hb hbox hg; obtain ⟨Ao273, co273, eo273⟩ := Kd.R_slice HO636.out; subst eo273; have hcz274_0 : w272.cell? ⟨gb638, 0, none⟩ = some (.slice none 0 0) := (blk_cell BK638.out 0).trans rfl; have hfz274_0 := blk_frozen BK638.out 0) | (go_at_call 36; (with_reducible refine (spec_ParsePuzzle.calls kj141 t633 t639 t642 _ A249.out).mono ?_); rintro e w275 ⟨v640, rfl, ho0, hb⟩; have HO641 := Aside0.mk (Kd.R_lower (Kd.R_new' ho0 (Kd.R_lt zq20_0_)) (below_size z20_8_)); replace HO636 := Aside0.mk (Kd.R_elder' zq20_0_ (Kd.R_base ho0) hb); replace BK638 := Aside0.mk (blk_below (g := gb638) (o := .cells #[.slice Ao273 t634.length co273] 26 (0, 0)) z20_16_ hb); replace HB := Aside0.mk (below_step z20_8_ hb)) | ((with_reducible refine gate_dst (N := 59) rfl ?_); refine bxg_ 59 #[.slice none 0 0] 26 ?_; intro gb643 hg w276 hbox hb; replace HO636 := Aside0.mk (Kd.R_below z20_20_ hb); replace HO641 := Aside0.mk (Kd.R_below z20_26_ hb); have BK643 := Aside0.mk (hbox); have GW643 : Aside0 (w.heap.size ≤ gb643) := bs_ hg z20_8_; have GE643 := GW643; replace HB := Aside0.mk (below_step z20_8_ hb); have NB638_643 := nl_ BK638 z20_12_ hg; have NB643_638 := ns_ NB638_643; replace BK638 := bb_ BK638 z20_12_ hb; clear hb hbox hg; obtain ⟨Ao277, co277, eo277⟩ := Kd.R_slice HO641.out; subst eo277; have hnb278 := NB643_638.out; have hnc278 := NB638_643.out; have hcz279_0 : w276.cell? ⟨gb643, 0, none⟩ = some (.slice none 0 0) := (blk_cell BK643.out 0).trans rfl; have hfz279_0 := blk_frozen BK643.out 0; have hcz280_0 : w276.cell? ⟨gb638, 0, none⟩ = some (.slice Ao273 t634.length co273) := (blk_cell BK638.out 0).trans rfl; have hfz280_0 := blk_frozen BK638.out 0) | (go_at_call 34; (with_reducible refine (laws_iPuzzle.calls kj141 _ _ t634 _ _ t639 true _ ?side1 ?side2 ?side3 ?side4 A251.out).mono ?_); (case side1 => exact zc20_3_); (case side2 => exact zc20_19_); (case side3 => exact zc20_4_); (case side4 => exact (Kd.R_reads' HO641.out).2.1); rintro e w281 ⟨rfl, hb⟩; replace HO636 := Aside0.mk (Kd.R_below zq20_9_ hb); replace HO641 := Aside0.mk (Kd.R_below zq20_7_ hb); replace BK638 := bb_ BK638 z20_22_ hb; replace BK643 := Aside0.mk (blk_below (g := gb643) (o := .cells #[.slice Ao277 t639.length co277] 26 (0, 0)) z20_17_ hb); replace HB := Aside0.mk (below_step z20_15_ hb))))
      go_ret
      exact ⟨zL_, zs20_9⟩

/-- THE ONE PURE STATEMENT of laws_FnTicketsGuessed: yours. -/
def laws_FnTicketsGuessed.Pure : Prop := ∀ (l0 : List Int) (l1 : List Int), l0.length ≤ maxLen → l0.length * 1 ≤ 140737488351232 → (∀ x ∈ l0, (Lit.int .u8 x).wf = true) → l1.length ≤ maxLen → l1.length * 1 ≤ 140737488351232 → (∀ x ∈ l1, (Lit.int .u8 x).wf = true) → ∃ k, laws_FnTicketsGuessed.f k l0 l1 = some true
theorem laws_FnTicketsGuessed.walk (P : laws_FnTicketsGuessed.Pure) (a0 : Option Addr) (len0 cap0 : Nat) (z0 : List Int) (a1 : Option Addr) (len1 cap1 : Nat) (z1 : List Int) (w : World) (hT : Shelf.TabOk w) (w0 : (a0 = none ∧ len0 = 0 ∧ cap0 = 0 ∧ z0 = []) ∨ ∃ x, a0 = some x ∧ len0 ≤ cap0 ∧ cap0 ≤ maxLen ∧ z0.length = cap0 ∧ (∀ i, i < z0.length → w.cell? (x.add i) = some (.int .u8 (z0.getD i 0))) ∧ ∀ n ∈ z0, (Lit.int .u8 n).wf = true) (y0 : len0 * 1 ≤ 140737488351232) (w1 : (a1 = none ∧ len1 = 0 ∧ cap1 = 0 ∧ z1 = []) ∨ ∃ x, a1 = some x ∧ len1 ≤ cap1 ∧ cap1 ≤ maxLen ∧ z1.length = cap1 ∧ (∀ i, i < z1.length → w.cell? (x.add i) = some (.int .u8 (z1.getD i 0))) ∧ ∀ n ∈ z1, (Lit.int .u8 n).wf = true) (y1 : len1 * 1 ≤ 140737488351232) :
 Calls Tryz.prog 3 #[.slice a0 len0 cap0, .slice a1 len1 cap1] w fun e w' => e = .returned (.bool true) ∧ Below w.heap.size w w' := by
 obtain ⟨l0, rfl, hr0, hm0, hw0, hc0⟩ := ReadsInt.ofRowC w0
 obtain ⟨l1, rfl, hr1, hm1, hw1, hc1⟩ := ReadsInt.ofRowC w1
 obtain ⟨k, h⟩ := P l0 l1 hm0 y0 hw0 hm1 y1 hw1
 refine (laws_FnTicketsGuessed.calls k _ _ l0 _ _ l1 true w hT (Kd.C_of_reads (d := (0 : Int)) (h1 := fun _ => rfl) hr0) hc0 (Kd.C_of_reads (d := (0 : Int)) (h1 := fun _ => rfl) hr1) hc1 (Aside0.mk rfl) h).mono ?_
 rintro e w' ⟨rfl, hd⟩
 exact ⟨rfl, hd⟩

end Go.Proofs.YtmfbjhkhgkphcaaGreatDoor.PFnTicketsGuessed

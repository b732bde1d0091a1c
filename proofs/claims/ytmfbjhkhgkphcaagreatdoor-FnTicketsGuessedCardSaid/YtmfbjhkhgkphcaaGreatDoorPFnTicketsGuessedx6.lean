-- Laid by this session's program gprint.py over the kit's print.
import Derived.Test.YtmfbjhkhgkphcaaGreatDoorSq
import Derived.Test.YtmfbjhkhgkphcaaGreatDoorZip
import Derived.Test.YtmfbjhkhgkphcaaGreatDoorFn
import Derived.Test.YtmfbjhkhgkphcaaGreatDoorProg
import Derived.Below
import Derived.Deep.Draws
import Derived.Deep.AppendLies
import Derived.Maps.AppendAt
import Derived.OwnWalk
import Derived.Laws.BytesArg
import Derived.Laws.MakeOwn
import Derived.Laws.OwnMore
import Derived.Deep.OwnRows
import Derived.Tactics
import Derived.Lib.ConvBytes
import Derived.Laws.Slices
import Derived.WalkKit
import Derived.KernelRfl
import Derived.RowKit3
import Derived.Deep.LoopGhost
import Derived.Deep.QuietTactic
import Derived.BigQuiet
import Derived.WideLaws
import Derived.Deep.DeepCutAuto
import Derived.Deep.CutBlock
import Derived.Deep.RegionHeld3
import Derived.Laws.Rows
import Derived.Lib.AppendStr
import Derived.ArgAppend
import Derived.Laws.IdiomCopy
import Derived.OrdersHeld
import Derived.Laws.BitsLemmas
import Derived.RowKit
import Derived.Test.YtmfbjhkhgkphcaaGreatDoorShelf
import Derived.Test.YtmfbjhkhgkphcaaGreatDoorParse
import Derived.Test.YtmfbjhkhgkphcaaGreatDoorTrim
import Derived.Test.YtmfbjhkhgkphcaaGreatDoorJoin
import Derived.Laws.Cover1
import Derived.Test.YtmfbjhkhgkphcaaGreatDoorWWords
import Derived.Test.YtmfbjhkhgkphcaaGreatDoorWLast
import Derived.Test.YtmfbjhkhgkphcaaGreatDoorWTab
import Derived.Test.YtmfbjhkhgkphcaaGreatDoorWFour
import Derived.Test.YtmfbjhkhgkphcaaGreatDoorWQPut
import Derived.Test.YtmfbjhkhgkphcaaGreatDoorWApart
import Derived.Test.YtmfbjhkhgkphcaaGreatDoorWArr
import Derived.Test.YtmfbjhkhgkphcaaGreatDoorWZeros
import Derived.Test.YtmfbjhkhgkphcaaGreatDoorWFoot
import Derived.Test.YtmfbjhkhgkphcaaGreatDoorWKept
import Derived.Test.YtmfbjhkhgkphcaaGreatDoorWShare
import Derived.Test.YtmfbjhkhgkphcaaGreatDoorWN
import Derived.Test.YtmfbjhkhgkphcaaGreatDoorWFootNe
import Derived.Test.YtmfbjhkhgkphcaaGreatDoorWAt
import Derived.Test.YtmfbjhkhgkphcaaGreatDoorWEqStruct
import Derived.Test.YtmfbjhkhgkphcaaGreatDoorWRepsOne
import Derived.Test.YtmfbjhkhgkphcaaGreatDoorWInv
import Derived.Test.YtmfbjhkhgkphcaaGreatDoorWInvWords
import Derived.Test.YtmfbjhkhgkphcaaGreatDoorWGuard
import Derived.Test.YtmfbjhkhgkphcaaGreatDoorWNEv
import Derived.Test.YtmfbjhkhgkphcaaGreatDoorWMore
namespace Go.Proofs.YtmfbjhkhgkphcaaGreatDoor.PFnTicketsGuessed
open Go.RowKit Go.Proofs.YtmfbjhkhgkphcaaGreatDoorW.PrintWords Go.Proofs.YtmfbjhkhgkphcaaGreatDoorW.PrintLast Go.Proofs.YtmfbjhkhgkphcaaGreatDoorW.PrintMore
attribute [local go_sem] max2_int min2_int max_two min_two max_three min_three max_four min_four   -- for this text's walks alone
set_option linter.unusedVariables false
set_option linter.unusedSimpArgs false
set_option maxHeartbeats 8000000
set_option maxRecDepth 100000
theorem zs6_0 {p : Prop} (h : p := by have hq := hc 0 _ rfl; rwa [Nat.mul_one, Nat.add_zero] at hq) : p := h
theorem zs6_1 {p : Prop} (h : p := by first | rfl | (simp; done) | (simp [*]; done)) : p := h
theorem zs6_2 {p : Prop} (h : p := by repeat (first | exact Drawn0.refl _ | apply Drawn0.step)) : p := h
theorem zs6_3 {p : Prop} (h : p := by have := HK1.out; omega) : p := h
theorem zs6_4 {p : Prop} (h : p := by first | rfl | (simp; done) | (simp only [← hji24] <;> (first | rfl | simp)) | (simp [*]; done)) : p := h
theorem zs6_5 {p : Prop} (h : p := by rw [← hq_]; exact z3_8_) : p := h
theorem zs6_6 {p : Prop} (h : p := by rw [← hq_]; exact z3_4_) : p := h
theorem zs6_7 {p : Prop} (h : p := by repeat (first | (with_reducible first | exact HB.out | apply below_alloc | apply pw_below_drewN | apply below_drew1 | refine below_set ?_ GE108.out) | exact HB.out)) : p := h
theorem zs6_8 {p : Prop} (h : p := by first | omega | exact Nat.le_refl _) : p := h
theorem zs6_9 {p : Prop} (h : p := by repeat (first | (with_reducible first | exact HB.out | apply below_alloc | apply pw_below_drewN | apply below_drew1 | refine below_set ?_ GE113.out) | exact HB.out)) : p := h
theorem zs6_10 {p : Prop} (h : p := by first | rfl | (simp [errW_none, errW_some] <;> rfl) | (simp [*, errW_none, errW_some] <;> rfl)) : p := h
theorem zs6_11 {p : Prop} (h : p := by first | exact Kd.R_nil _ _ _ _ _ | exact Kd.N_nil _ _ _ _ _ | exact Kd.V_nil _ _ _ _ _ | exact Kd.Q_nil _ _ _ _ _ | exact Kd.S_nil _ _ _ _ _) : p := h
theorem zs6_12 {p : Prop} (h : p := by refine b_ ?_; refine blk_far ?_ NB113_117.out _; exact b_ BK113.out) : p := h
theorem zs6_13 {p : Prop} (h : p := by repeat (first | (with_reducible first | exact HB.out | apply below_alloc | apply pw_below_drewN | apply below_drew1 | refine below_set ?_ GE113.out | refine below_set ?_ GE117.out) | exact HB.out)) : p := h
theorem zs6_14 {p : Prop} (h : p := by repeat (first | (with_reducible first | exact HI0.out | apply IsS68.alloc | apply IsS68.drewN | apply IsS68.drew | apply IsS68.set_1 | apply IsS68.set_2) | exact HI0.out)) : p := h
theorem zs6_15 {p : Prop} (h : p := by repeat (first | (with_reducible first | exact HB.out | apply below_alloc | apply pw_below_drewN | apply below_drew1 | refine below_set ?_ (IsS68.ge HI0.out)) | exact HB.out)) : p := h
theorem zs6_16 {p : Prop} (h : p := by repeat (first | (with_reducible first | exact HK.out | apply KeepBut.set_ | apply keep_drewN | apply keep_drew | apply keep_alloc) | exact HK.out)) : p := h
theorem zs6_17 {p : Prop} (h : p := by refine b_ ?_; refine blk_far ?_ NB162_175.out _; exact b_ BK162.out) : p := h
theorem zs6_18 {p : Prop} (h : p := by refine b_ ?_; refine blk_put (cs := #[.int .i64 (wrap64 (t163 + (wrap64 (Int.tdiv t166 8)))), .int .i64 0, .int .i64 (wrap64 (t169 - (wrap64 (Int.tdiv t172 8))))]) ?_ 1 _ rfl; exact b_ BK175.out) : p := h
theorem zs6_19 {p : Prop} (h : p := by repeat (first | (with_reducible first | exact HI0.out | apply IsS68.alloc | apply IsS68.drewN | apply IsS68.drew | apply IsS68.set_1 | apply IsS68.set_2 | refine IsS68.far ?_ NB0_162.out _ | refine IsS68.far ?_ NB0_175.out _) | exact HI0.out)) : p := h
theorem zs6_20 {p : Prop} (h : p := by repeat (first | (with_reducible first | exact HK.out | apply KeepBut.set_ | apply keep_drewN | apply keep_drew | apply keep_alloc | refine keep_far ?_ GW162.out _ | refine keep_far ?_ GW175.out _) | exact HK.out)) : p := h
theorem zs6_21 {p : Prop} (h : p := by repeat (first | (with_reducible first | exact HB.out | apply below_alloc | apply pw_below_drewN | apply below_drew1 | refine below_set ?_ (IsS68.ge HI0.out) | refine below_set ?_ GE162.out | refine below_set ?_ GE175.out) | exact HB.out)) : p := h
theorem zs6_22 {p : Prop} (h : p := by refine b_ ?_; refine blk_far ?_ NB162_175.out _; refine b_ ?_; refine blk_far ?_ NB162_175.out _; refine b_ ?_; refine blk_far ?_ NB162_175.out _; exact b_ BK162.out) : p := h
theorem zs6_23 {p : Prop} (h : p := by refine b_ ?_; refine blk_put (cs := #[.int .i64 (wrap64 (t163 + (wrap64 (Int.tdiv t166 8)))), .int .i64 0, .int .i64 0]) ?_ 2 _ rfl; refine b_ ?_; refine blk_put (cs := #[.int .i64 (wrap64 (t163 + (wrap64 (Int.tdiv t166 8)))), .int .i64 0, .int .i64 0]) ?_ 1 _ rfl; refine b_ ?_; refine blk_put (cs := #[.int .i64 0, .int .i64 0, .int .i64 0]) ?_ 0 _ rfl; exact b_ BK175.out) : p := h
theorem zs6_24 {p : Prop} (h : p := by have := HJ21.out; first | omega | exact Nat.le_refl _) : p := h
theorem zs6_25 {p : Prop} (h : p := by have := HJ5.out; first | omega | exact Nat.le_refl _) : p := h
theorem zs6_26 {p : Prop} (h : p := by have := HJ5.out; have := HJ35.out; first | omega | exact Nat.le_refl _) : p := h
theorem zs6_27 {p : Prop} (h : p := by repeat (first | (with_reducible first | exact HI0.out | apply IsS68.alloc | apply IsS68.drewN | apply IsS68.drew | apply IsS68.set_1 | apply IsS68.set_2 | refine IsS68.far ?_ NB0_194.out _ | refine IsS68.far ?_ NB0_200.out _) | exact HI0.out)) : p := h
theorem zs6_28 {p : Prop} (h : p := by repeat (first | (with_reducible first | exact HK.out | apply KeepBut.set_ | apply keep_drewN | apply keep_drew | apply keep_alloc | refine keep_far ?_ GW194.out _ | refine keep_far ?_ GW200.out _) | exact HK.out)) : p := h
theorem zs6_29 {p : Prop} (h : p := by repeat (first | (with_reducible first | exact HB.out | apply below_alloc | apply pw_below_drewN | apply below_drew1 | refine below_set ?_ (IsS68.ge HI0.out) | refine below_set ?_ GE194.out | refine below_set ?_ GE200.out) | exact HB.out)) : p := h



theorem zq6_0_ {p : Prop} (h : p := by repeat (first | (with_reducible first | exact HI0.out | apply IsS68.alloc | apply IsS68.drewN | apply IsS68.drew | apply IsS68.set_1 | apply IsS68.set_2) | exact HI0.out)) : p := h
theorem zq6_1_ {p : Prop} (h : p := by simp only [putAll, Act.put, List.setIfInBounds_toArray, List.set_cons_zero, List.set_cons_succ]) : p := h
theorem zc6_0_ {p : Prop} (h : p := by repeat (first | (with_reducible first | exact HI0.out | apply IsS68.alloc | apply IsS68.drewN | apply IsS68.drew | apply IsS68.set_1 | apply IsS68.set_2 | refine IsS68.far ?_ NB0_162.out _ | refine IsS68.far ?_ NB0_175.out _) | exact HI0.out)) : p := h
theorem zc6_1_ {p : Prop} (h : p := by repeat (first | (with_reducible first | exact HI0.out | apply IsS68.alloc | apply IsS68.drewN | apply IsS68.drew | apply IsS68.set_1 | apply IsS68.set_2 | refine IsS68.far ?_ NB0_194.out _ | refine IsS68.far ?_ NB0_200.out _) | exact HI0.out)) : p := h
theorem zc6_2_ {p : Prop} (h : p := by repeat (first | (with_reducible first | exact HB.out | apply below_alloc | apply pw_below_drewN | apply below_drew1 | refine below_set ?_ (IsS68.ge HI0.out) | refine below_set ?_ GE162.out | refine below_set ?_ GE175.out) | exact HB.out)) : p := h
theorem zc6_3_ {p : Prop} (h : p := by repeat (first | (with_reducible first | exact HB.out | apply below_alloc | apply pw_below_drewN | apply below_drew1 | refine below_set ?_ (IsS68.ge HI0.out) | refine below_set ?_ GE194.out | refine below_set ?_ GE200.out) | exact HB.out)) : p := h
theorem zc6_4_ {p : Prop} (h : p := by repeat (first | (with_reducible first | exact HI0.out | apply IsS68.alloc | apply IsS68.drewN | apply IsS68.drew | apply IsS68.set_1 | apply IsS68.set_2 | refine IsS68.far ?_ NB0_144.out _) | exact HI0.out)) : p := h
theorem zc6_5_ {p : Prop} (h : p := by repeat (first | (with_reducible first | exact HI0.out | apply IsS68.alloc | apply IsS68.drewN | apply IsS68.drew | apply IsS68.set_1 | apply IsS68.set_2 | refine IsS68.far ?_ NB0_162.out _) | exact HI0.out)) : p := h
theorem zc6_6_ {p : Prop} (h : p := by repeat (first | (with_reducible first | exact HB.out | apply below_alloc | apply pw_below_drewN | apply below_drew1 | refine below_set ?_ (IsS68.ge HI0.out) | refine below_set ?_ GE144.out) | exact HB.out)) : p := h
theorem zc6_7_ {p : Prop} (h : p := by repeat (first | (with_reducible first | exact HB.out | apply below_alloc | apply pw_below_drewN | apply below_drew1 | refine below_set ?_ (IsS68.ge HI0.out) | refine below_set ?_ GE162.out) | exact HB.out)) : p := h
theorem zc6_8_ {p : Prop} (h : p := by repeat (first | (with_reducible first | exact HB.out | apply below_alloc | apply pw_below_drewN | apply below_drew1 | refine below_set ?_ (IsS68.ge HI0.out)) | exact HB.out)) : p := h
theorem zc6_9_ {p : Prop} (h : p := by repeat (first | (with_reducible first | exact HI0.out | apply IsS68.alloc | apply IsS68.drewN | apply IsS68.drew | apply IsS68.set_1 | apply IsS68.set_2) | exact HI0.out)) : p := h
theorem zc6_10_ {p : Prop} (h : p := by exact (Reps.one (show Kd.M (Kd.int .u8) _ _ _ ((wrap64 (48 + (Int.tmod a0 10))) % 256) [.int .u8 ((wrap64 (48 + (Int.tmod a0 10))) % 256)] from rfl) (Reps.none _ _))) : p := h
def errW : Option Int → Value
 | none => .nilIface
 | some c => .iface 0 (.int .i64 c)
theorem errW_none : errW none = .nilIface := rfl
theorem errW_some (c : Int) : errW (some c) = .iface 0 (.int .i64 c) := rfl

theorem dead_ {r : Bool} {x : Option Bool} {P : Prop} (e : x = some false) (H : x = some r) (h : Aside0 (r = true)) : P := Bool.noConfusion ((Option.some.inj (e.symm.trans H)).trans h.out)
theorem none_ {α : Type} {r : α} {x : Option α} {P : Prop} (e : x = none) (H : x = some r) : P := by rw [e] at H; cases H
theorem lit_size_ (a : Array UInt8) : (⟨a⟩ : ByteArray).size = a.size := rfl
theorem info3 : (Tryz.prog.info? 3).map (fun i => (i.zero, i.size, i.bytes)) = some (some (.int .i64 0), 1, 8) := by kernel_rfl
theorem info5 : (Tryz.prog.info? 5).map (fun i => (i.zero, i.size, i.bytes)) = some (some (.int .u8 0), 1, 1) := by kernel_rfl
theorem info9 : (Tryz.prog.info? 9).map (fun i => (i.zero, i.size, i.bytes)) = some (some (.string ⟨#[]⟩), 1, 16) := by kernel_rfl
theorem info46 : (Tryz.prog.info? 46).map (fun i => (i.zero, i.size, i.bytes)) = some (some (.agg #[(.int .i64 0), (.int .i64 0), (.int .i64 0)]), 3, 24) := by kernel_rfl
-- the values' own types
/-! #### struct type 46 -/
structure S46 where
 f0 : Int
 f1 : Int
 f2 : Int
def z46 : S46 := ⟨(0 : Int), (0 : Int), (0 : Int)⟩
def k46 : Kd S46 := Kd.iso (Kd.pair (Kd.int .i64) (Kd.pair (Kd.int .i64) (Kd.int .i64))) (fun x : S46 => (x.f0, x.f1, x.f2))
theorem k46_open {w : World} {x : S46} {cs : List Value} (h : k46.K w x cs) : cs = [.int .i64 x.f0, .int .i64 x.f1, .int .i64 x.f2] := by
 obtain ⟨_, _, rfl, rfl, ⟨_, _, rfl, rfl, rfl⟩⟩ := h
 exact rfl
theorem k46_openM {w : World} {base : Nat} {ok : Nat → Prop} {x : S46} {cs : List Value} (h : k46.M w base ok x cs) : cs = [.int .i64 x.f0, .int .i64 x.f1, .int .i64 x.f2] := by
 obtain ⟨_, _, rfl, rfl, ⟨_, _, rfl, rfl, rfl⟩⟩ := h
 exact rfl
theorem k46_mk (w : World) (x : S46)  : k46.K w x [.int .i64 x.f0, .int .i64 x.f1, .int .i64 x.f2] := ⟨[.int .i64 x.f0], [.int .i64 x.f1, .int .i64 x.f2], rfl, rfl, ⟨[.int .i64 x.f1], [.int .i64 x.f2], rfl, rfl, rfl⟩⟩
theorem k46_mkM (w : World) (base : Nat) (ok : Nat → Prop) (x : S46)  : k46.M w base ok x [.int .i64 x.f0, .int .i64 x.f1, .int .i64 x.f2] := ⟨[.int .i64 x.f0], [.int .i64 x.f1, .int .i64 x.f2], rfl, rfl, ⟨[.int .i64 x.f1], [.int .i64 x.f2], rfl, rfl, rfl⟩⟩
def rd_T46 (xs : List S46) (i : Int) : S46 := xs.getD i.toNat z46
theorem at_T46 {w : World} {A : Option Addr} {n : Nat} {xs : List S46} (h : Kd.C k46 w A n xs) (i : Int) (h0 : 0 ≤ i) (h1 : i < n) : ∃ ad , A = some ad ∧ w.cell? (ad.add (i.toNat * 3)) = some (.int .i64 (rd_T46 xs i).f0) ∧ w.cell? ⟨(ad.add (i.toNat * 3)).block, (ad.add (i.toNat * 3)).off + 1, none⟩ = some (.int .i64 (rd_T46 xs i).f1) ∧ w.cell? ⟨(ad.add (i.toNat * 3)).block, (ad.add (i.toNat * 3)).off + 2, none⟩ = some (.int .i64 (rd_T46 xs i).f2) := by
 obtain ⟨ad, c, e, _, hK, hc0⟩ := Kd.C_get h z46 i h0 h1
 have hc : ∀ j u, c[j]? = some u → w.cell? (ad.add (i.toNat * 3 + j)) = some u := hc0
 obtain rfl := k46_open hK
 exact ⟨ad, e, hc 0 _ rfl, by rw [← add_field _ _ 1 (by omega)]; exact hc 1 _ rfl, by rw [← add_field _ _ 2 (by omega)]; exact hc 2 _ rfl⟩

def rd_L3 (xs : List (List S46)) (i : Int) : (List S46) := xs.getD i.toNat ([] : List S46)
theorem at_L3 {w : World} {A : Option Addr} {n : Nat} {xs : List (List S46)} (h : Kd.C (Kd.slice 46 k46) w A n xs) (i : Int) (h0 : 0 ≤ i) (h1 : i < n) : ∃ ad A0 c0, A = some ad ∧ w.cell? (ad.add i.toNat) = some (.slice A0 (rd_L3 xs i).length c0) ∧ (rd_L3 xs i).length ≤ c0 ∧ k46.C w A0 (rd_L3 xs i).length (rd_L3 xs i) := by
 obtain ⟨ad, c, e, _, hK, hc0⟩ := Kd.C_get h ([] : List S46) i h0 h1
 have hc : ∀ j u, c[j]? = some u → w.cell? (ad.add (i.toNat * 1 + j)) = some u := hc0
 obtain ⟨A0, c0, rfl, l0, g0⟩ := hK
 exact ⟨ad, A0, c0, e, zs6_0, l0, g0⟩

/-! #### struct type 26 -/
structure S26 where
 f0 : (List S46)
def z26 : S26 := ⟨([] : List S46)⟩
def k26 : Kd S26 := Kd.iso (Kd.slice 46 k46) (fun x : S26 => x.f0)
theorem k26_open {w : World} {x : S26} {cs : List Value} (h : k26.K w x cs) : ∃ A0 c0, cs = [.slice A0 x.f0.length c0] ∧ x.f0.length ≤ c0 ∧ k46.C w A0 x.f0.length x.f0 := by
 obtain ⟨A0, c0, rfl, l0, g0⟩ := h
 exact ⟨A0, c0, rfl, l0, g0⟩
theorem k26_openM {w : World} {base : Nat} {ok : Nat → Prop} {x : S26} {cs : List Value} (h : k26.M w base ok x cs) : ∃ v0, cs = [v0] ∧ k46.R 46 w base ok v0 x.f0 := by
 obtain ⟨v0, rfl, g0⟩ := h
 exact ⟨v0, rfl, g0⟩
theorem k26_mk (w : World) (x : S26) {A0 : Option Addr} {c0 : Nat} (l0 : x.f0.length ≤ c0) (g0 : k46.C w A0 x.f0.length x.f0) : k26.K w x [.slice A0 x.f0.length c0] := ⟨A0, c0, rfl, l0, g0⟩
theorem k26_mkM (w : World) (base : Nat) (ok : Nat → Prop) (x : S26) {v0 : Value} (g0 : k46.R 46 w base ok v0 x.f0) : k26.M w base ok x [v0] := ⟨v0, rfl, g0⟩
def rd_T26 (xs : List S26) (i : Int) : S26 := xs.getD i.toNat z26
theorem at_T26 {w : World} {A : Option Addr} {n : Nat} {xs : List S26} (h : Kd.C k26 w A n xs) (i : Int) (h0 : 0 ≤ i) (h1 : i < n) : ∃ ad A0 c0, A = some ad ∧ w.cell? (ad.add i.toNat) = some (.slice A0 (rd_T26 xs i).f0.length c0) ∧ (rd_T26 xs i).f0.length ≤ c0 ∧ k46.C w A0 (rd_T26 xs i).f0.length (rd_T26 xs i).f0 := by
 obtain ⟨ad, c, e, _, hK, hc0⟩ := Kd.C_get h z26 i h0 h1
 have hc : ∀ j u, c[j]? = some u → w.cell? (ad.add (i.toNat * 1 + j)) = some u := hc0
 obtain ⟨A0, c0, rfl, l0, g0⟩ := k26_open hK
 exact ⟨ad, A0, c0, e, zs6_0, l0, g0⟩

def rd_L6 (xs : List (List ByteArray)) (i : Int) : (List ByteArray) := xs.getD i.toNat ([] : List ByteArray)
theorem at_L6 {w : World} {A : Option Addr} {n : Nat} {xs : List (List ByteArray)} (h : Kd.C (Kd.slice 9 Kd.string) w A n xs) (i : Int) (h0 : 0 ≤ i) (h1 : i < n) : ∃ ad A0 c0, A = some ad ∧ w.cell? (ad.add i.toNat) = some (.slice A0 (rd_L6 xs i).length c0) ∧ (rd_L6 xs i).length ≤ c0 ∧ Kd.string.C w A0 (rd_L6 xs i).length (rd_L6 xs i) := by
 obtain ⟨ad, c, e, _, hK, hc0⟩ := Kd.C_get h ([] : List ByteArray) i h0 h1
 have hc : ∀ j u, c[j]? = some u → w.cell? (ad.add (i.toNat * 1 + j)) = some u := hc0
 obtain ⟨A0, c0, rfl, l0, g0⟩ := hK
 exact ⟨ad, A0, c0, e, zs6_0, l0, g0⟩


theorem eqA46 (d : Nat) (w : World) (x0 y0 : Int) (x1 y1 : Int) (x2 y2 : Int) :
 (Op.equalIn (d + 2) 46 (.agg #[.int .i64 x0, .int .i64 x1, .int .i64 x2]) (.agg #[.int .i64 y0, .int .i64 y1, .int .i64 y2])).run Tryz.prog w = .ok (x0 == y0 && (x1 == y1 && (x2 == y2))) w := by
 refine eqA_of Tryz.underlying46 (by kernel_rfl) ?_
 refine eqf_cons (by rfl) (by go_simp; rfl) (by go_simp; rfl) (by go_simp) ?_
 refine eqf_cons (by rfl) (by go_simp; rfl) (by go_simp; rfl) (by go_simp) ?_
 exact eqf_last (by rfl) (by go_simp; rfl) (by go_simp; rfl) (by go_simp)
theorem z2_2_ {p : Prop} (h : p := by (try simp only [List.map_toArray, List.map_cons, List.map_nil]); first | done | rfl | (simp only [List.length_drop, List.length_take]; rfl)) : p := h

/-! ### laws_big: function 4 -/
def laws_big.f (l0 : List Int) (l1 : List Int) : Option (Bool) := if (l0.length : Int) > 1048576 then (some true) else (some (decide ((l1.length : Int) > (wrap64 (1048576 - (l0.length : Int))))))
theorem laws_big.calls (A0 : Option Addr) (c0 : Nat) (l0 : List Int) (A1 : Option Addr) (c1 : Nat) (l1 : List Int) (r : Bool) (w : World) (hr0 : Kd.C (Kd.int .u8) w A0 l0.length l0) (hc0 : l0.length ≤ c0) (hr1 : Kd.C (Kd.int .u8) w A1 l1.length l1) (hc1 : l1.length ≤ c1) (h : laws_big.f l0 l1 = some r) :
 Calls Tryz.prog 4 #[.slice A0 l0.length c0, .slice A1 l1.length c1] w fun e w' => e = .returned (.bool r) ∧ Drawn0 w w' := by
 have HR0 := Aside0.mk hr0
 have HC0 := Aside0.mk hc0
 clear hr0 hc0
 have HR1 := Aside0.mk hr1
 have HC1 := Aside0.mk hc1
 clear hr1 hc1
 unfold laws_big.f at h
 have H := h
 clear h
 by_cases c3 : (l0.length : Int) > 1048576
 · rw [if_pos c3] at H
   have c3b0 : decide (1048576 < (l0.length : Int)) = true := decide_eq_true c3
   have c3b1 : decide (1048576 < l0.length) = true := decide_eq_true (by omega)
   clear c3
   obtain rfl := Option.some.inj H
   go_enter Tryz.func4, Tryz.ntmps4
   go_wp2
   go_ret
   exact ⟨zs6_1, zs6_2⟩
 rw [if_neg c3] at H
 have c3b0 : decide (1048576 < (l0.length : Int)) = false := decide_eq_false c3
 have c3b1 : decide (1048576 < l0.length) = false := decide_eq_false (by omega)
 clear c3
 obtain rfl := Option.some.inj H
 go_enter Tryz.func4, Tryz.ntmps4
 go_wp2
 go_ret
 exact ⟨zs6_1, zs6_2⟩

/-! ### spec_l1In: function 81 -/
def spec_l1In.f (a0 : Int) (a1 : Int) (a2 : Int) : Option (Bool) := if a0 ≥ a1 then (some (decide (a0 ≤ a2))) else (some false)
theorem spec_l1In.calls (a0 : Int) (a1 : Int) (a2 : Int) (r : Bool) (w : World) (h : spec_l1In.f a0 a1 a2 = some r) :
 Calls Tryz.prog 81 #[.int .i64 a0, .int .i64 a1, .int .i64 a2] w fun e w' => e = .returned (.bool r) ∧ Drawn0 w w' := by
 unfold spec_l1In.f at h
 have H := h
 clear h
 by_cases c4 : a0 ≥ a1
 · rw [if_pos c4] at H
   have c4b0 : decide (a1 ≤ a0) = true := decide_eq_true c4
   clear c4
   obtain rfl := Option.some.inj H
   go_enter Tryz.func81, Tryz.ntmps81
   go_wp2
   go_ret
   exact ⟨zs6_1, zs6_2⟩
 rw [if_neg c4] at H
 have c4b0 : decide (a1 ≤ a0) = false := decide_eq_false c4
 clear c4
 obtain rfl := Option.some.inj H
 go_enter Tryz.func81, Tryz.ntmps81
 go_wp2
 go_ret
 exact ⟨zs6_1, zs6_2⟩

/-! ### spec_pzHidden: function 102 -/
def spec_pzHidden.l0 : Nat → ByteArray → Int → Option (Bool)
 | 0, _, _ => none
 | k + 1, x0, x3 => if x3 < 4 then (if 0 ≤ x3 then (if x3 < (x0.size : Int) then ((spec_l1In.f (wrap64 ((wrap64 (bt x0 x3)) - 48)) 0 5).bind fun t101 => (if t101 = true then (spec_pzHidden.l0 k x0 (wrap64 (x3 + 1))) else (some false))) else (none)) else (none)) else (some true)
def spec_pzHidden.f (k : Nat) (a0 : ByteArray) : Option (Bool) := if (a0.size : Int) = 4 then (spec_pzHidden.l0 k a0 0) else (some false)
theorem spec_pzHidden.mono_l : ∀ k, (∀ y0 y1, LeO (spec_pzHidden.l0 k y0 y1) (spec_pzHidden.l0 (k + 1) y0 y1))
 | 0 => fun _ _ r h => by simp [spec_pzHidden.l0] at h
 | k + 1 => by
  have ih0 := spec_pzHidden.mono_l k
  intro y0 y1
  unfold spec_pzHidden.l0
  have m1_ := @ih0
  exact zM_
theorem spec_pzHidden.mono : ∀ a0 k, LeO (spec_pzHidden.f k a0) (spec_pzHidden.f (k + 1) a0) := by
 intro a0 k
 have ih0 := spec_pzHidden.mono_l k
 unfold spec_pzHidden.f
 have m1_ := @ih0
 exact zM_
theorem spec_pzHidden.calls (k : Nat) (a0 : ByteArray) (r : Bool) (w : World) (h : spec_pzHidden.f k a0 = some r) :
 Calls Tryz.prog 102 #[.string a0] w fun e w' => e = .returned (.bool r) ∧ Drawn0 w w' := by
 unfold spec_pzHidden.f at h
 have H := h
 clear h
 by_cases c2 : (a0.size : Int) = 4
 rotate_left
 · rw [if_neg c2] at H
   have c2b0 : ((a0.size : Int) == 4) = false := beq_eq_false_iff_ne.mpr c2
   have c2b1 : ((a0.size : Int) != 4) = true := bne_iff_ne.mpr c2
   obtain rfl := Option.some.inj H
   go_enter Tryz.func102, Tryz.ntmps102
   go_wp2
   go_ret
   exact ⟨zs6_1, zs6_2⟩
 rw [if_pos c2] at H
 have c2b0 : ((a0.size : Int) == 4) = true := beq_iff_eq.mpr c2
 have c2b1 : ((a0.size : Int) != 4) = false := bne_eq_false_iff_eq.mpr c2
 clear c2
 have H' := Aside0.mk H
 clear H
 go_enter Tryz.func102, Tryz.ntmps102
 go_wp2
 go_loopg [3] k (fun kq v3 w' => ∃ (x3_1 : Int), v3 = .int .i64 x3_1 ∧ Aside0 (spec_pzHidden.l0 kq a0 x3_1 = some r) ∧ Aside0 (kq ≤ k) ∧ Drawn0 w w')
 case atStart => exact ⟨(0), zV_, H', ⟨Nat.le_refl _⟩, zs6_2⟩
 case round =>
  clear H'
  obtain ⟨x3_1, rfl, HA, HK1, ⟨m1, rfl⟩⟩ := hrel
  cases gk with
  | zero => exact absurd HA.out (by simp [spec_pzHidden.l0])
  | succ k1 =>
   have H := HA.out
   clear HA
   simp only [spec_pzHidden.l0] at H
   by_cases c3 : x3_1 < 4
   rotate_left
   · rw [if_neg c3] at H
     have c3b0 := decide_eq_false c3
     clear c3
     obtain rfl := Option.some.inj H
     go_wp2
     go_ret
     exact ⟨zs6_1, zs6_2⟩
   rw [if_pos c3] at H
   have c3b0 := decide_eq_true c3
   clear c3
   replace H := gd_ H; obtain ⟨c4, H⟩ := H
   have c4b0 : decide (0 ≤ x3_1) = true := decide_eq_true c4
   clear c4
   replace H := gd_ H; obtain ⟨c5, H⟩ := H
   have c5b0 : decide (x3_1 < (a0.size : Int)) = true := decide_eq_true c5
   clear c5
   replace H := bd_ H; obtain ⟨t101, A7, H⟩ := H
   by_cases c8 : t101 = true
   · subst c8
     rw [if_pos rfl] at H
     have H' := Aside0.mk H
     clear H
     have p6 : 0 ≤ (x3_1 : Int) := of_decide_eq_true zS_
     have q6 : x3_1 < (a0.size : Int) := of_decide_eq_true zS_
     have hx6 := bt_at a0 x3_1
     replace p6 := eq_true p6
     replace q6 := eq_true q6
     go_wp2_with (first | ((with_reducible refine gc_ 81 rfl ?_); refine gL_ 16 Tryz.func81 #[.int .i64 (wrap64 ((wrap64 (bt a0 x3_1)) - 48)), .int .i64 0, .int .i64 5] ?_; (with_reducible refine (spec_l1In.calls (wrap64 ((wrap64 (bt a0 x3_1)) - 48)) 0 5 true _ A7.out).mono ?_); rintro e w' ⟨rfl, ⟨nd, rfl⟩⟩; refine ⟨_, rfl, ?_⟩))
     go_roundg k1
     case measure => have := HK1.out; omega
     case rel => exact ⟨(wrap64 (x3_1 + 1)), zV_, H', ⟨zs6_3⟩, zs6_2⟩
   replace H := bf_ c8 H; obtain ⟨rfl, H⟩ := H
   obtain rfl := Option.some.inj H
   have p6 : 0 ≤ (x3_1 : Int) := of_decide_eq_true zS_
   have q6 : x3_1 < (a0.size : Int) := of_decide_eq_true zS_
   have hx6 := bt_at a0 x3_1
   replace p6 := eq_true p6
   replace q6 := eq_true q6
   go_wp2_with (first | ((with_reducible refine gc_ 81 rfl ?_); refine gL_ 16 Tryz.func81 #[.int .i64 (wrap64 ((wrap64 (bt a0 x3_1)) - 48)), .int .i64 0, .int .i64 5] ?_; (with_reducible refine (spec_l1In.calls (wrap64 ((wrap64 (bt a0 x3_1)) - 48)) 0 5 false _ A7.out).mono ?_); rintro e w' ⟨rfl, ⟨nd, rfl⟩⟩; refine ⟨_, rfl, ?_⟩))
   go_ret
   exact ⟨zs6_1, zs6_2⟩

/-! ### spec_pzNext: function 103 -/
def spec_pzNext.f (a0 : Int) : Option (Int) := some (Int.tmod (wrap64 ((wrap64 (303 * a0)) + 709)) 10007)
theorem spec_pzNext.calls (a0 : Int) (r : Int) (w : World) (h : spec_pzNext.f a0 = some r) :
 Calls Tryz.prog 103 #[.int .i64 a0] w fun e w' => e = .returned (.int .i64 r) ∧ Drawn0 w w' := by
 unfold spec_pzNext.f at h
 have H := h
 clear h
 obtain rfl := Option.some.inj H
 go_enter Tryz.func103, Tryz.ntmps103
 go_wp2
 go_ret
 exact ⟨zs6_1, zs6_2⟩

/-! ### spec_tkSum: function 170 -/
def spec_tkSum.l0 : Nat → ByteArray → Int → Int → Option (Int)
 | 0, _, _, _ => none
 | k + 1, x0, x3, x4 => if x4 < (x0.size : Int) then (if 0 ≤ x4 then (spec_tkSum.l0 k x0 (wrap64 (x3 + (((bt x0 x4) - 48) % 256))) (wrap64 (x4 + 1))) else (none)) else (some x3)
def spec_tkSum.f (k : Nat) (a0 : ByteArray) : Option (Int) := spec_tkSum.l0 k a0 0 0
theorem spec_tkSum.mono_l : ∀ k, (∀ y0 y1 y2, LeO (spec_tkSum.l0 k y0 y1 y2) (spec_tkSum.l0 (k + 1) y0 y1 y2))
 | 0 => fun _ _ _ r h => by simp [spec_tkSum.l0] at h
 | k + 1 => by
  have ih0 := spec_tkSum.mono_l k
  intro y0 y1 y2
  unfold spec_tkSum.l0
  have m1_ := @ih0
  exact zM_
theorem spec_tkSum.mono : ∀ a0 k, LeO (spec_tkSum.f k a0) (spec_tkSum.f (k + 1) a0) := by
 intro a0 k
 have ih0 := spec_tkSum.mono_l k
 unfold spec_tkSum.f
 have m1_ := @ih0
 exact zM_
theorem spec_tkSum.calls (k : Nat) (a0 : ByteArray) (r : Int) (w : World) (h : spec_tkSum.f k a0 = some r) :
 Calls Tryz.prog 170 #[.string a0] w fun e w' => e = .returned (.int .i64 r) ∧ Drawn0 w w' := by
 unfold spec_tkSum.f at h
 have H := h
 clear h
 have H' := Aside0.mk H
 clear H
 go_enter Tryz.func170, Tryz.ntmps170
 go_wp2
 go_loopg [3, 4] k (fun kq v3 v4 w' => ∃ (x3_1 : Int) (x4_1 : Int), v3 = .int .i64 x3_1 ∧ v4 = .int .i64 x4_1 ∧ Aside0 (spec_tkSum.l0 kq a0 x3_1 x4_1 = some r) ∧ Aside0 (kq ≤ k) ∧ Drawn0 w w')
 case atStart => exact ⟨(0), (0), zV_, zV_, H', ⟨Nat.le_refl _⟩, zs6_2⟩
 case round =>
  clear H'
  try clear c1
  obtain ⟨x3_1, x4_1, rfl, rfl, HA, HK1, ⟨m1, rfl⟩⟩ := hrel
  cases gk with
  | zero => exact absurd HA.out (by simp [spec_tkSum.l0])
  | succ k1 =>
   have H := HA.out
   clear HA
   simp only [spec_tkSum.l0] at H
   by_cases c2 : x4_1 < (a0.size : Int)
   rotate_left
   · rw [if_neg c2] at H
     have c2b0 := decide_eq_false c2
     clear c2
     obtain rfl := Option.some.inj H
     go_wp2
     go_ret
     exact ⟨zs6_1, zs6_2⟩
   rw [if_pos c2] at H
   have c2b0 := decide_eq_true c2
   clear c2
   replace H := gd_ H; obtain ⟨c3, H⟩ := H
   have c3b0 : decide (0 ≤ x4_1) = true := decide_eq_true c3
   clear c3
   have H' := Aside0.mk H
   clear H
   have p4 : 0 ≤ (x4_1 : Int) := of_decide_eq_true zS_
   have q4 : x4_1 < (a0.size : Int) := of_decide_eq_true zS_
   have hx4 := bt_at a0 x4_1
   replace p4 := eq_true p4
   replace q4 := eq_true q4
   go_wp2
   go_roundg k1
   case measure => have := HK1.out; omega
   case rel => exact ⟨(wrap64 (x3_1 + (((bt a0 x4_1) - 48) % 256))), (wrap64 (x4_1 + 1)), zV_, zV_, H', ⟨zs6_3⟩, zs6_2⟩

/-! ### spec_tkHalves: function 151 -/
def spec_tkHalves.f (k : Nat) (a0 : ByteArray) : Option (Int × Int) := if 0 ≤ (wrap64 ((a0.size : Int) / 2)) then (if (wrap64 ((a0.size : Int) / 2)) ≤ (a0.size : Int) then ((spec_tkSum.f k (a0.extract 0 ((wrap64 ((a0.size : Int) / 2)) : Int).toNat)).bind fun t102 => ((spec_tkSum.f k (a0.extract ((wrap64 ((a0.size : Int) / 2)) : Int).toNat a0.size)).bind fun t103 => (some (t102, t103)))) else (none)) else (none)
theorem spec_tkHalves.mono : ∀ a0 k, LeO (spec_tkHalves.f k a0) (spec_tkHalves.f (k + 1) a0) := by
 intro a0 k
 unfold spec_tkHalves.f
 have m1_ := @spec_tkSum.mono
 exact zM_
theorem spec_tkHalves.calls (k : Nat) (a0 : ByteArray) (r1 : Int) (r2 : Int) (w : World) (h : spec_tkHalves.f k a0 = some (r1, r2)) :
 Calls Tryz.prog 151 #[.string a0] w fun e w' => e = .returned (.tuple #[.int .i64 r1, .int .i64 r2]) ∧ Drawn0 w w' := by
 unfold spec_tkHalves.f at h
 have H := h
 clear h
 obtain ⟨ji2, hji2⟩ : ∃ j_ : Int, (wrap64 ((a0.size : Int) / 2)) = j_ := ⟨_, rfl⟩
 replace H : (if 0 ≤ (ji2) then (if (ji2) ≤ (a0.size : Int) then ((spec_tkSum.f k (a0.extract 0 ((ji2) : Int).toNat)).bind fun t102 => ((spec_tkSum.f k (a0.extract ((ji2) : Int).toNat a0.size)).bind fun t103 => (some (t102, t103)))) else (none)) else (none)) = some (r1, r2) := by first | (rw [hji2] at H; exact H) | (simp only [hji2] at H ⊢; exact H)
 have hji2w : (IntKind.i64.wrap ((a0.size : Int) / 2)) = ji2 := (i64_w _).trans hji2
 replace H := gd_ H; obtain ⟨c3, H⟩ := H
 have c3b0 := eq_true c3
 have c3b1 : decide (0 ≤ (ji2)) = true := decide_eq_true c3
 clear c3
 replace H := gd_ H; obtain ⟨c4, H⟩ := H
 have c4b0 := eq_true c4
 have c4b1 : decide ((ji2) ≤ (a0.size : Int)) = true := decide_eq_true c4
 clear c4
 replace H := bd_ H; obtain ⟨t102, A5, H⟩ := H
 have c6b0 := eq_true (of_decide_eq_true zS_ : 0 ≤ (ji2))
 have c7b0 := eq_true (of_decide_eq_true zS_ : (ji2) ≤ (a0.size : Int))
 replace H := bd_ H; obtain ⟨t103, A8, H⟩ := H
 simp only [Option.some.injEq, Prod.mk.injEq] at H
 obtain ⟨rfl, rfl⟩ := H
 go_enter Tryz.func151, Tryz.ntmps151
 go_wp2_with (first | (go_at_call 170; (with_reducible refine (spec_tkSum.calls k (a0.extract 0 ((ji2) : Int).toNat) t102 _ A5.out).mono ?_); rintro e w' ⟨rfl, ⟨nd, rfl⟩⟩; (try first | exact ⟨rfl, _, World.drewN_drewN _ _ _⟩ | exact ⟨rfl, _, Eq.trans (World.drewN_drewN _ _ _) (congrArg (World.drewN _) (Nat.add_assoc _ _ _))⟩)) | (go_at_call 170; (with_reducible refine (spec_tkSum.calls k (a0.extract ((ji2) : Int).toNat a0.size) t103 _ A8.out).mono ?_); rintro e w' ⟨rfl, ⟨nd, rfl⟩⟩; (try first | exact ⟨rfl, _, World.drewN_drewN _ _ _⟩ | exact ⟨rfl, _, Eq.trans (World.drewN_drewN _ _ _) (congrArg (World.drewN _) (Nat.add_assoc _ _ _))⟩)))
 repeat (go_quiet (first | (go_at_call 170; (with_reducible refine (spec_tkSum.calls k (a0.extract 0 ((ji2) : Int).toNat) t102 _ A5.out).mono ?_); rintro e w' ⟨rfl, ⟨nd, rfl⟩⟩; (try first | exact ⟨rfl, _, World.drewN_drewN _ _ _⟩ | exact ⟨rfl, _, Eq.trans (World.drewN_drewN _ _ _) (congrArg (World.drewN _) (Nat.add_assoc _ _ _))⟩)) | (go_at_call 170; (with_reducible refine (spec_tkSum.calls k (a0.extract ((ji2) : Int).toNat a0.size) t103 _ A8.out).mono ?_); rintro e w' ⟨rfl, ⟨nd, rfl⟩⟩; (try first | exact ⟨rfl, _, World.drewN_drewN _ _ _⟩ | exact ⟨rfl, _, Eq.trans (World.drewN_drewN _ _ _) (congrArg (World.drewN _) (Nat.add_assoc _ _ _))⟩))); try go_wp2_with (first | (go_at_call 170; (with_reducible refine (spec_tkSum.calls k (a0.extract 0 ((ji2) : Int).toNat) t102 _ A5.out).mono ?_); rintro e w' ⟨rfl, ⟨nd, rfl⟩⟩; (try first | exact ⟨rfl, _, World.drewN_drewN _ _ _⟩ | exact ⟨rfl, _, Eq.trans (World.drewN_drewN _ _ _) (congrArg (World.drewN _) (Nat.add_assoc _ _ _))⟩)) | (go_at_call 170; (with_reducible refine (spec_tkSum.calls k (a0.extract ((ji2) : Int).toNat a0.size) t103 _ A8.out).mono ?_); rintro e w' ⟨rfl, ⟨nd, rfl⟩⟩; (try first | exact ⟨rfl, _, World.drewN_drewN _ _ _⟩ | exact ⟨rfl, _, Eq.trans (World.drewN_drewN _ _ _) (congrArg (World.drewN _) (Nat.add_assoc _ _ _))⟩))))
 go_ret2
 exact ⟨by first | rfl | (simp; done) | (simp only [← hji2] <;> (first | rfl | simp)) | (simp [*]; done), zs6_2⟩

/-! ### spec_tkLucky: function 130 -/
def spec_tkLucky.f (k : Nat) (a0 : ByteArray) : Option (Bool) := (spec_tkHalves.f k a0).bind fun bt104 => (some (bt104.1 == bt104.2))
theorem spec_tkLucky.mono : ∀ a0 k, LeO (spec_tkLucky.f k a0) (spec_tkLucky.f (k + 1) a0) := by
 intro a0 k
 unfold spec_tkLucky.f
 have m1_ := @spec_tkHalves.mono
 exact zM_
theorem spec_tkLucky.calls (k : Nat) (a0 : ByteArray) (r : Bool) (w : World) (h : spec_tkLucky.f k a0 = some r) :
 Calls Tryz.prog 130 #[.string a0] w fun e w' => e = .returned (.bool r) ∧ Drawn0 w w' := by
 unfold spec_tkLucky.f at h
 have H := h
 clear h
 replace H := bd_ H; obtain ⟨⟨t104, t105⟩, A2, H⟩ := H
 dsimp only at H
 obtain rfl := Option.some.inj H
 go_enter Tryz.func130, Tryz.ntmps130
 go_wp2_with (first | ((with_reducible refine gc_ 151 rfl ?_); refine gL_ 7 Tryz.func151 #[.string a0] ?_; (with_reducible refine (spec_tkHalves.calls k a0 t104 t105 _ A2.out).mono ?_); rintro e w' ⟨rfl, ⟨nd, rfl⟩⟩; refine ⟨_, rfl, ?_⟩))
 go_ret
 exact ⟨zs6_1, zs6_2⟩

/-! ### spec_l1Find: function 131 -/
def spec_l1Find.l0 : Nat → ByteArray → Int → Int → Option (Int)
 | 0, _, _, _ => none
 | k + 1, x0, x1, x5 => if x5 < (x0.size : Int) then (if 0 ≤ x5 then (if (bt x0 x5) = x1 then (some x5) else (spec_l1Find.l0 k x0 x1 (wrap64 (x5 + 1)))) else (none)) else (some (-1))
def spec_l1Find.f (k : Nat) (a0 : ByteArray) (a1 : Int) : Option (Int) := spec_l1Find.l0 k a0 a1 0
theorem spec_l1Find.mono_l : ∀ k, (∀ y0 y1 y2, LeO (spec_l1Find.l0 k y0 y1 y2) (spec_l1Find.l0 (k + 1) y0 y1 y2))
 | 0 => fun _ _ _ r h => by simp [spec_l1Find.l0] at h
 | k + 1 => by
  have ih0 := spec_l1Find.mono_l k
  intro y0 y1 y2
  unfold spec_l1Find.l0
  have m1_ := @ih0
  exact zM_
theorem spec_l1Find.mono : ∀ a0 a1 k, LeO (spec_l1Find.f k a0 a1) (spec_l1Find.f (k + 1) a0 a1) := by
 intro a0 a1 k
 have ih0 := spec_l1Find.mono_l k
 unfold spec_l1Find.f
 have m1_ := @ih0
 exact zM_
theorem spec_l1Find.calls (k : Nat) (a0 : ByteArray) (a1 : Int) (r : Int) (w : World) (h : spec_l1Find.f k a0 a1 = some r) :
 Calls Tryz.prog 131 #[.string a0, .int .u8 a1] w fun e w' => e = .returned (.int .i64 r) ∧ Drawn0 w w' := by
 unfold spec_l1Find.f at h
 have H := h
 clear h
 have H' := Aside0.mk H
 clear H
 go_enter Tryz.func131, Tryz.ntmps131
 go_wp2
 go_loopg [5] k (fun kq v5 w' => ∃ (x5_1 : Int), v5 = .int .i64 x5_1 ∧ Aside0 (spec_l1Find.l0 kq a0 a1 x5_1 = some r) ∧ Aside0 (kq ≤ k) ∧ Drawn0 w w')
 case atStart => exact ⟨(0), zV_, H', ⟨Nat.le_refl _⟩, zs6_2⟩
 case round =>
  clear H'
  obtain ⟨x5_1, rfl, HA, HK1, ⟨m1, rfl⟩⟩ := hrel
  cases gk with
  | zero => exact absurd HA.out (by simp [spec_l1Find.l0])
  | succ k1 =>
   have H := HA.out
   clear HA
   simp only [spec_l1Find.l0] at H
   by_cases c3 : x5_1 < (a0.size : Int)
   rotate_left
   · rw [if_neg c3] at H
     have c3b0 := decide_eq_false c3
     clear c3
     obtain rfl := Option.some.inj H
     go_wp2
     go_ret
     exact ⟨zs6_1, zs6_2⟩
   rw [if_pos c3] at H
   have c3b0 := decide_eq_true c3
   clear c3
   replace H := gd_ H; obtain ⟨c4, H⟩ := H
   have c4b0 : decide (0 ≤ x5_1) = true := decide_eq_true c4
   clear c4
   by_cases c6 : (bt a0 x5_1) = a1
   · obtain ⟨H, c6b0, c6b1⟩ := ep_ c6 H
     clear c6
     obtain rfl := Option.some.inj H
     have p5 : 0 ≤ (x5_1 : Int) := of_decide_eq_true zS_
     have q5 : x5_1 < (a0.size : Int) := of_decide_eq_true zS_
     have hx5 := bt_at a0 x5_1
     replace p5 := eq_true p5
     replace q5 := eq_true q5
     go_wp2
     go_ret
     exact ⟨zs6_1, zs6_2⟩
   obtain ⟨H, c6b0, c6b1⟩ := en_ c6 H
   have H' := Aside0.mk H
   clear H
   have p5 : 0 ≤ (x5_1 : Int) := of_decide_eq_true zS_
   have q5 : x5_1 < (a0.size : Int) := of_decide_eq_true zS_
   have hx5 := bt_at a0 x5_1
   replace p5 := eq_true p5
   replace q5 := eq_true q5
   go_wp2
   go_roundg k1
   case measure => have := HK1.out; omega
   case rel => exact ⟨(wrap64 (x5_1 + 1)), zV_, H', ⟨zs6_3⟩, zs6_2⟩

/-! ### spec_pzValue: function 108 -/
def spec_pzValue.l0 : Nat → ByteArray → Int → Int → Option (Int)
 | 0, _, _, _ => none
 | k + 1, x2, x7, x8 => if x8 < 4 then (if 0 ≤ x8 then (if x8 ≤ (x2.size : Int) then (if x8 < (x2.size : Int) then ((spec_l1Find.f k (x2.extract 0 (x8 : Int).toNat) (bt x2 x8)).bind fun t107 => (if t107 < 0 then (spec_pzValue.l0 k x2 (wrap64 (x7 + 1)) (wrap64 (x8 + 1))) else (spec_pzValue.l0 k x2 x7 (wrap64 (x8 + 1))))) else (none)) else (none)) else (none)) else (some x7)
def spec_pzValue.f (k : Nat) (a0 : Int) (a1 : Int) (a2 : ByteArray) : Option (Int) := if a0 = 0 then (if 0 ≤ (wrap64 (2 * a1)) then (if (wrap64 (2 * a1)) < (a2.size : Int) then (if 0 ≤ (wrap64 ((wrap64 (2 * a1)) + 1)) then (if (wrap64 ((wrap64 (2 * a1)) + 1)) < (a2.size : Int) then (some ((((bt a2 (wrap64 (2 * a1))) - 48) % 256) + (((bt a2 (wrap64 ((wrap64 (2 * a1)) + 1))) - 48) % 256))) else (none)) else (none)) else (none)) else (none)) else (if a0 = 1 then (if 0 ≤ a1 then (if a1 < (a2.size : Int) then (some (((bt a2 a1) - 48) % 256)) else (none)) else (none)) else (if a0 = 2 then ((spec_tkLucky.f k a2).bind fun t106 => (if t106 = true then (some 1) else (some 0))) else (if a0 = 3 then (if 0 ≤ a1 then (if a1 < (a2.size : Int) then (if 0 ≤ (wrap64 (a1 + 1)) then (if (wrap64 (a1 + 1)) < (a2.size : Int) then (if (bt a2 a1) < (bt a2 (wrap64 (a1 + 1))) then (some 1) else (some 0)) else (none)) else (none)) else (none)) else (none)) else (spec_pzValue.l0 k a2 0 0))))
theorem spec_pzValue.mono_l : ∀ k, (∀ y0 y1 y2, LeO (spec_pzValue.l0 k y0 y1 y2) (spec_pzValue.l0 (k + 1) y0 y1 y2))
 | 0 => fun _ _ _ r h => by simp [spec_pzValue.l0] at h
 | k + 1 => by
  have ih0 := spec_pzValue.mono_l k
  intro y0 y1 y2
  unfold spec_pzValue.l0
  have m1_ := @ih0
  have m2_ := @spec_l1Find.mono
  have m3_ := @spec_tkLucky.mono
  exact zM_
theorem spec_pzValue.mono : ∀ a0 a1 a2 k, LeO (spec_pzValue.f k a0 a1 a2) (spec_pzValue.f (k + 1) a0 a1 a2) := by
 intro a0 a1 a2 k
 have ih0 := spec_pzValue.mono_l k
 unfold spec_pzValue.f
 have m1_ := @ih0
 have m2_ := @spec_l1Find.mono
 have m3_ := @spec_tkLucky.mono
 exact zM_
theorem spec_pzValue.calls (k : Nat) (a0 : Int) (a1 : Int) (a2 : ByteArray) (r : Int) (w : World) (h : spec_pzValue.f k a0 a1 a2 = some r) :
 Calls Tryz.prog 108 #[.int .i64 a0, .int .i64 a1, .string a2] w fun e w' => e = .returned (.int .i64 r) ∧ Drawn0 w w' := by
 unfold spec_pzValue.f at h
 have H := h
 clear h
 by_cases c4 : a0 = 0
 · obtain ⟨H, c4b0, c4b1⟩ := ep_ c4 H
   clear c4
   obtain ⟨ji5, hji5⟩ : ∃ j_ : Int, (wrap64 (2 * a1)) = j_ := ⟨_, rfl⟩
   replace H : (if 0 ≤ (ji5) then (if (ji5) < (a2.size : Int) then (if 0 ≤ (wrap64 ((ji5) + 1)) then (if (wrap64 ((ji5) + 1)) < (a2.size : Int) then (some ((((bt a2 (ji5)) - 48) % 256) + (((bt a2 (wrap64 ((ji5) + 1))) - 48) % 256))) else (none)) else (none)) else (none)) else (none)) = some r := by first | (rw [hji5] at H; exact H) | (simp only [hji5] at H ⊢; exact H)
   have hji5w : (IntKind.i64.wrap (2 * a1)) = ji5 := (i64_w _).trans hji5
   replace H := gd_ H; obtain ⟨c6, H⟩ := H
   have c6b0 : decide (0 ≤ (ji5)) = true := decide_eq_true c6
   clear c6
   replace H := gd_ H; obtain ⟨c7, H⟩ := H
   have c7b0 : decide ((ji5) < (a2.size : Int)) = true := decide_eq_true c7
   clear c7
   obtain ⟨ji9, hji9⟩ : ∃ j_ : Int, (wrap64 ((ji5) + 1)) = j_ := ⟨_, rfl⟩
   replace H : (if 0 ≤ (ji9) then (if (ji9) < (a2.size : Int) then (some ((((bt a2 (ji5)) - 48) % 256) + (((bt a2 (ji9)) - 48) % 256))) else (none)) else (none)) = some r := by first | (rw [hji9] at H; exact H) | (simp only [hji9] at H ⊢; exact H)
   have hji9w : (IntKind.i64.wrap ((ji5) + 1)) = ji9 := (i64_w _).trans hji9
   replace H := gd_ H; obtain ⟨c10, H⟩ := H
   have c10b0 : decide (0 ≤ (ji9)) = true := decide_eq_true c10
   clear c10
   replace H := gd_ H; obtain ⟨c11, H⟩ := H
   have c11b0 : decide ((ji9) < (a2.size : Int)) = true := decide_eq_true c11
   clear c11
   obtain rfl := Option.some.inj H
   have p8 : 0 ≤ ((ji5) : Int) := of_decide_eq_true zS_
   have q8 : (ji5) < (a2.size : Int) := of_decide_eq_true zS_
   have hx8 := bt_at a2 (ji5)
   replace p8 := eq_true p8
   replace q8 := eq_true q8
   have p12 : 0 ≤ ((ji9) : Int) := of_decide_eq_true zS_
   have q12 : (ji9) < (a2.size : Int) := of_decide_eq_true zS_
   have hx12 := bt_at a2 (ji9)
   replace p12 := eq_true p12
   replace q12 := eq_true q12
   go_enter Tryz.func108, Tryz.ntmps108
   go_wp2
   repeat (go_quiet (fail); try go_wp2)
   go_ret
   exact ⟨by first | rfl | (simp; done) | (simp only [← hji5, ← hji9] <;> (first | rfl | simp)) | (simp [*]; done), zs6_2⟩
 obtain ⟨H, c4b0, c4b1⟩ := en_ c4 H
 by_cases c13 : a0 = 1
 · obtain ⟨H, c13b0, c13b1⟩ := ep_ c13 H
   clear c13
   replace H := gd_ H; obtain ⟨c14, H⟩ := H
   have c14b0 : decide (0 ≤ a1) = true := decide_eq_true c14
   clear c14
   replace H := gd_ H; obtain ⟨c15, H⟩ := H
   have c15b0 : decide (a1 < (a2.size : Int)) = true := decide_eq_true c15
   clear c15
   obtain rfl := Option.some.inj H
   have p16 : 0 ≤ (a1 : Int) := of_decide_eq_true zS_
   have q16 : a1 < (a2.size : Int) := of_decide_eq_true zS_
   have hx16 := bt_at a2 a1
   replace p16 := eq_true p16
   replace q16 := eq_true q16
   go_enter Tryz.func108, Tryz.ntmps108
   go_wp2
   repeat (go_quiet (fail); try go_wp2)
   go_ret
   exact ⟨zs6_1, zs6_2⟩
 obtain ⟨H, c13b0, c13b1⟩ := en_ c13 H
 by_cases c17 : a0 = 2
 · obtain ⟨H, c17b0, c17b1⟩ := ep_ c17 H
   clear c17
   replace H := bd_ H; obtain ⟨t106, A18, H⟩ := H
   by_cases c19 : t106 = true
   · subst c19
     rw [if_pos rfl] at H
     obtain rfl := Option.some.inj H
     go_enter Tryz.func108, Tryz.ntmps108
     go_wp2_with (first | (go_at_call 130; (with_reducible refine (spec_tkLucky.calls k a2 true _ A18.out).mono ?_); rintro e w' ⟨rfl, ⟨nd, rfl⟩⟩; (try first | exact ⟨rfl, _, World.drewN_drewN _ _ _⟩ | exact ⟨rfl, _, Eq.trans (World.drewN_drewN _ _ _) (congrArg (World.drewN _) (Nat.add_assoc _ _ _))⟩)))
     repeat (go_quiet (fail); try go_wp2_with (first | (go_at_call 130; (with_reducible refine (spec_tkLucky.calls k a2 true _ A18.out).mono ?_); rintro e w' ⟨rfl, ⟨nd, rfl⟩⟩; (try first | exact ⟨rfl, _, World.drewN_drewN _ _ _⟩ | exact ⟨rfl, _, Eq.trans (World.drewN_drewN _ _ _) (congrArg (World.drewN _) (Nat.add_assoc _ _ _))⟩))))
     go_ret
     exact ⟨zs6_1, zs6_2⟩
   replace H := bf_ c19 H; obtain ⟨rfl, H⟩ := H
   obtain rfl := Option.some.inj H
   go_enter Tryz.func108, Tryz.ntmps108
   go_wp2_with (first | (go_at_call 130; (with_reducible refine (spec_tkLucky.calls k a2 false _ A18.out).mono ?_); rintro e w' ⟨rfl, ⟨nd, rfl⟩⟩; (try first | exact ⟨rfl, _, World.drewN_drewN _ _ _⟩ | exact ⟨rfl, _, Eq.trans (World.drewN_drewN _ _ _) (congrArg (World.drewN _) (Nat.add_assoc _ _ _))⟩)))
   repeat (go_quiet (fail); try go_wp2_with (first | (go_at_call 130; (with_reducible refine (spec_tkLucky.calls k a2 false _ A18.out).mono ?_); rintro e w' ⟨rfl, ⟨nd, rfl⟩⟩; (try first | exact ⟨rfl, _, World.drewN_drewN _ _ _⟩ | exact ⟨rfl, _, Eq.trans (World.drewN_drewN _ _ _) (congrArg (World.drewN _) (Nat.add_assoc _ _ _))⟩))))
   go_ret
   exact ⟨zs6_1, zs6_2⟩
 obtain ⟨H, c17b0, c17b1⟩ := en_ c17 H
 by_cases c20 : a0 = 3
 · obtain ⟨H, c20b0, c20b1⟩ := ep_ c20 H
   clear c20
   replace H := gd_ H; obtain ⟨c21, H⟩ := H
   have c21b0 : decide (0 ≤ a1) = true := decide_eq_true c21
   clear c21
   replace H := gd_ H; obtain ⟨c22, H⟩ := H
   have c22b0 : decide (a1 < (a2.size : Int)) = true := decide_eq_true c22
   clear c22
   obtain ⟨ji24, hji24⟩ : ∃ j_ : Int, (wrap64 (a1 + 1)) = j_ := ⟨_, rfl⟩
   replace H : (if 0 ≤ (ji24) then (if (ji24) < (a2.size : Int) then (if (bt a2 a1) < (bt a2 (ji24)) then (some 1) else (some 0)) else (none)) else (none)) = some r := by first | (rw [hji24] at H; exact H) | (simp only [hji24] at H ⊢; exact H)
   have hji24w : (IntKind.i64.wrap (a1 + 1)) = ji24 := (i64_w _).trans hji24
   replace H := gd_ H; obtain ⟨c25, H⟩ := H
   have c25b0 : decide (0 ≤ (ji24)) = true := decide_eq_true c25
   clear c25
   replace H := gd_ H; obtain ⟨c26, H⟩ := H
   have c26b0 : decide ((ji24) < (a2.size : Int)) = true := decide_eq_true c26
   clear c26
   by_cases c28 : (bt a2 a1) < (bt a2 (ji24))
   · rw [if_pos c28] at H
     have c28b0 := decide_eq_true c28
     clear c28
     obtain rfl := Option.some.inj H
     have p23 : 0 ≤ (a1 : Int) := of_decide_eq_true zS_
     have q23 : a1 < (a2.size : Int) := of_decide_eq_true zS_
     have hx23 := bt_at a2 a1
     replace p23 := eq_true p23
     replace q23 := eq_true q23
     have p27 : 0 ≤ ((ji24) : Int) := of_decide_eq_true zS_
     have q27 : (ji24) < (a2.size : Int) := of_decide_eq_true zS_
     have hx27 := bt_at a2 (ji24)
     replace p27 := eq_true p27
     replace q27 := eq_true q27
     go_enter Tryz.func108, Tryz.ntmps108
     go_wp2
     repeat (go_quiet (fail); try go_wp2)
     go_ret
     exact ⟨zs6_4, zs6_2⟩
   rw [if_neg c28] at H
   have c28b0 := decide_eq_false c28
   clear c28
   obtain rfl := Option.some.inj H
   have p23 : 0 ≤ (a1 : Int) := of_decide_eq_true zS_
   have q23 : a1 < (a2.size : Int) := of_decide_eq_true zS_
   have hx23 := bt_at a2 a1
   replace p23 := eq_true p23
   replace q23 := eq_true q23
   have p27 : 0 ≤ ((ji24) : Int) := of_decide_eq_true zS_
   have q27 : (ji24) < (a2.size : Int) := of_decide_eq_true zS_
   have hx27 := bt_at a2 (ji24)
   replace p27 := eq_true p27
   replace q27 := eq_true q27
   go_enter Tryz.func108, Tryz.ntmps108
   go_wp2
   repeat (go_quiet (fail); try go_wp2)
   go_ret
   exact ⟨zs6_4, zs6_2⟩
 obtain ⟨H, c20b0, c20b1⟩ := en_ c20 H
 have H' := Aside0.mk H
 clear H
 go_enter Tryz.func108, Tryz.ntmps108
 go_wp2
 repeat (go_quiet (fail); try go_wp2)
 go_loopg [7, 8] k (fun kq v7 v8 w' => ∃ (x7_1 : Int) (x8_1 : Int), v7 = .int .i64 x7_1 ∧ v8 = .int .i64 x8_1 ∧ Aside0 (spec_pzValue.l0 kq a2 x7_1 x8_1 = some r) ∧ Aside0 (kq ≤ k) ∧ Drawn0 w w')
 case atStart => exact ⟨(0), (0), zV_, zV_, H', ⟨Nat.le_refl _⟩, zs6_2⟩
 case round =>
  clear H'
  obtain ⟨x7_1, x8_1, rfl, rfl, HA, HK1, ⟨m1, rfl⟩⟩ := hrel
  cases gk with
  | zero => exact absurd HA.out (by simp [spec_pzValue.l0])
  | succ k1 =>
   have H := HA.out
   clear HA
   simp only [spec_pzValue.l0] at H
   by_cases c29 : x8_1 < 4
   rotate_left
   · rw [if_neg c29] at H
     have c29b0 := decide_eq_false c29
     clear c29
     obtain rfl := Option.some.inj H
     go_wp2
     repeat (go_quiet (fail); try go_wp2)
     go_ret
     exact ⟨zs6_1, zs6_2⟩
   rw [if_pos c29] at H
   have c29b0 := decide_eq_true c29
   clear c29
   replace H := gd_ H; obtain ⟨c30, H⟩ := H
   have c30b0 := eq_true c30
   have c30b1 : decide (0 ≤ x8_1) = true := decide_eq_true c30
   clear c30
   replace H := gd_ H; obtain ⟨c31, H⟩ := H
   have c31b0 := eq_true c31
   have c31b1 : decide (x8_1 ≤ (a2.size : Int)) = true := decide_eq_true c31
   clear c31
   replace H := gd_ H; obtain ⟨c32, H⟩ := H
   have c32b0 : decide (x8_1 < (a2.size : Int)) = true := decide_eq_true c32
   clear c32
   replace H := bd_ H; obtain ⟨t107, A34, H⟩ := H
   by_cases c35 : t107 < 0
   · rw [if_pos c35] at H
     have c35b0 := decide_eq_true c35
     clear c35
     have H' := Aside0.mk H
     clear H
     have p33 : 0 ≤ (x8_1 : Int) := of_decide_eq_true zS_
     have q33 : x8_1 < (a2.size : Int) := of_decide_eq_true zS_
     have hx33 := bt_at a2 x8_1
     replace p33 := eq_true p33
     replace q33 := eq_true q33
     go_wp2_with (first | (go_at_call 131; (with_reducible refine (spec_l1Find.calls k1 (a2.extract 0 (x8_1 : Int).toNat) (bt a2 x8_1) t107 _ A34.out).mono ?_); rintro e w' ⟨rfl, ⟨nd, rfl⟩⟩; (try first | exact ⟨rfl, _, World.drewN_drewN _ _ _⟩ | exact ⟨rfl, _, Eq.trans (World.drewN_drewN _ _ _) (congrArg (World.drewN _) (Nat.add_assoc _ _ _))⟩)))
     repeat (go_quiet (first | (go_at_call 131; (with_reducible refine (spec_l1Find.calls k1 (a2.extract 0 (x8_1 : Int).toNat) (bt a2 x8_1) t107 _ A34.out).mono ?_); rintro e w' ⟨rfl, ⟨nd, rfl⟩⟩; (try first | exact ⟨rfl, _, World.drewN_drewN _ _ _⟩ | exact ⟨rfl, _, Eq.trans (World.drewN_drewN _ _ _) (congrArg (World.drewN _) (Nat.add_assoc _ _ _))⟩))); try go_wp2_with (first | (go_at_call 131; (with_reducible refine (spec_l1Find.calls k1 (a2.extract 0 (x8_1 : Int).toNat) (bt a2 x8_1) t107 _ A34.out).mono ?_); rintro e w' ⟨rfl, ⟨nd, rfl⟩⟩; (try first | exact ⟨rfl, _, World.drewN_drewN _ _ _⟩ | exact ⟨rfl, _, Eq.trans (World.drewN_drewN _ _ _) (congrArg (World.drewN _) (Nat.add_assoc _ _ _))⟩))))
     go_roundg k1
     case measure => have := HK1.out; omega
     case rel => exact ⟨(wrap64 (x7_1 + 1)), (wrap64 (x8_1 + 1)), zV_, zV_, H', ⟨zs6_3⟩, zs6_2⟩
   rw [if_neg c35] at H
   have c35b0 := decide_eq_false c35
   clear c35
   have H' := Aside0.mk H
   clear H
   have p33 : 0 ≤ (x8_1 : Int) := of_decide_eq_true zS_
   have q33 : x8_1 < (a2.size : Int) := of_decide_eq_true zS_
   have hx33 := bt_at a2 x8_1
   replace p33 := eq_true p33
   replace q33 := eq_true q33
   go_wp2_with (first | (go_at_call 131; (with_reducible refine (spec_l1Find.calls k1 (a2.extract 0 (x8_1 : Int).toNat) (bt a2 x8_1) t107 _ A34.out).mono ?_); rintro e w' ⟨rfl, ⟨nd, rfl⟩⟩; (try first | exact ⟨rfl, _, World.drewN_drewN _ _ _⟩ | exact ⟨rfl, _, Eq.trans (World.drewN_drewN _ _ _) (congrArg (World.drewN _) (Nat.add_assoc _ _ _))⟩)))
   repeat (go_quiet (first | (go_at_call 131; (with_reducible refine (spec_l1Find.calls k1 (a2.extract 0 (x8_1 : Int).toNat) (bt a2 x8_1) t107 _ A34.out).mono ?_); rintro e w' ⟨rfl, ⟨nd, rfl⟩⟩; (try first | exact ⟨rfl, _, World.drewN_drewN _ _ _⟩ | exact ⟨rfl, _, Eq.trans (World.drewN_drewN _ _ _) (congrArg (World.drewN _) (Nat.add_assoc _ _ _))⟩))); try go_wp2_with (first | (go_at_call 131; (with_reducible refine (spec_l1Find.calls k1 (a2.extract 0 (x8_1 : Int).toNat) (bt a2 x8_1) t107 _ A34.out).mono ?_); rintro e w' ⟨rfl, ⟨nd, rfl⟩⟩; (try first | exact ⟨rfl, _, World.drewN_drewN _ _ _⟩ | exact ⟨rfl, _, Eq.trans (World.drewN_drewN _ _ _) (congrArg (World.drewN _) (Nat.add_assoc _ _ _))⟩))))
   go_roundg k1
   case measure => have := HK1.out; omega
   case rel => exact ⟨(x7_1), (wrap64 (x8_1 + 1)), zV_, zV_, H', ⟨zs6_3⟩, zs6_2⟩

theorem z3_1_ {p : Prop} (h : p := by (try simp only [List.map_toArray, List.map_cons, List.map_nil]); first | done | rfl | (simp only [List.length_drop, List.length_take]; rfl)) : p := h
theorem z3_2_ {p : Prop} (h : p := by repeat (first | (with_reducible first | exact HB.out | apply below_alloc | apply pw_below_drewN | apply below_drew1 | refine below_set ?_ GE113.out | refine below_set ?_ GE117.out) | exact HB.out)) : p := h
theorem z3_3_ {p : Prop} (h : p := by exact b_ BK113.out) : p := h
theorem z3_4_ {p : Prop} (h : p := by repeat (first | (with_reducible first | exact HB.out | apply below_alloc | apply pw_below_drewN | apply below_drew1 | refine below_set ?_ GE108.out) | exact HB.out)) : p := h
theorem z3_5_ {p : Prop} (h : p := by refine b_ ?_; refine blk_put (cs := #[.slice none 0 0]) ?_ 0 _ rfl; exact b_ BK113.out) : p := h
theorem z3_6_ {p : Prop} (h : p := by exact rr_ HO132.out) : p := h
theorem z3_7_ {p : Prop} (h : p := by repeat (first | (with_reducible first | exact HB.out | apply below_alloc | apply pw_below_drewN | apply below_drew1 | refine below_set ?_ GE113.out) | exact HB.out)) : p := h
theorem z3_8_ {p : Prop} (h : p := by exact b_ BK108.out) : p := h
theorem z3_9_ {p : Prop} (h : p := by exact b_ BK117.out) : p := h
theorem z3_10_ {p : Prop} (h : p := by exact rr_ HO_118000.out) : p := h

/-! ### spec_pzOf: function 104 -/
def spec_pzOf.f (k : Nat) (a0 : Int) (a1 : Int) (a2 : ByteArray) : Option (Int × Int × Int) := if a0 = 0 then ((spec_pzValue.f k a0 (Int.tmod a1 2) a2).bind fun t109 => (some (a0, Int.tmod a1 2, t109))) else (if a0 = 1 then ((spec_pzValue.f k a0 (Int.tmod a1 4) a2).bind fun t110 => (some (a0, Int.tmod a1 4, t110))) else (if a0 = 3 then ((spec_pzValue.f k a0 (Int.tmod a1 3) a2).bind fun t111 => (some (a0, Int.tmod a1 3, t111))) else ((spec_pzValue.f k a0 0 a2).bind fun t112 => (some (a0, 0, t112)))))
theorem spec_pzOf.mono : ∀ a0 a1 a2 k, LeO (spec_pzOf.f k a0 a1 a2) (spec_pzOf.f (k + 1) a0 a1 a2) := by
 intro a0 a1 a2 k
 unfold spec_pzOf.f
 have m1_ := @spec_pzValue.mono
 exact zM_
theorem spec_pzOf.calls (k : Nat) (a0 : Int) (a1 : Int) (a2 : ByteArray) (r1 : Int) (r2 : Int) (r3 : Int) (w : World) (h : spec_pzOf.f k a0 a1 a2 = some (r1, r2, r3)) :
 Calls Tryz.prog 104 #[.int .i64 a0, .int .i64 a1, .string a2] w fun e w' => e = .returned (.agg #[.int .i64 r1, .int .i64 r2, .int .i64 r3]) ∧ Below w.heap.size w w' := by
 have hu46 := Tryz.underlying46
 have HB := Aside0.mk (Below.refl w.heap.size w)
 unfold spec_pzOf.f at h
 have H := h
 clear h
 by_cases c4 : a0 = 0
 · obtain ⟨H, c4b0, c4b1⟩ := ep_ c4 H
   clear c4
   replace H := bd_ H; obtain ⟨t109, A5, H⟩ := H
   simp only [Option.some.injEq, Prod.mk.injEq] at H
   obtain ⟨rfl, rfl, rfl⟩ := H
   go_enter Tryz.func104, Tryz.ntmps104
   go_wp2_with (first | (refine bx_ 6 #[.int .i64 0, .int .i64 0, .int .i64 0] 46 ?_; intro gb108 hg w6 hbox hb; have BK108 := Aside0.mk (hbox); have GW108 : Aside0 (w.heap.size ≤ gb108) := bs_ hg zB_; have GE108 := GW108; replace HB := Aside0.mk (below_step zB_ hb); clear hb hbox hg) | ((with_reducible refine gc_ 108 rfl ?_); refine gL_ 26 Tryz.func108 #[.int .i64 a0, .int .i64 (Int.tmod a1 2), .string a2] ?_; (with_reducible refine (spec_pzValue.calls k a0 (Int.tmod a1 2) a2 t109 _ A5.out).mono ?_); rintro e w' ⟨rfl, ⟨nd, rfl⟩⟩; refine ⟨_, rfl, ?_⟩; (try (rw [drewN_self w6]; generalize hq_ : World.drewN w6 _ = w6; have n0_ : Aside0 (w6.heap[gb108]? = some (.cells #[.int .i64 0, .int .i64 0, .int .i64 0] 46 (0, 0))) := ⟨zs6_5⟩; have n1_ : Aside0 (Below w.heap.size w w6) := ⟨zs6_6⟩; clear BK108 HB hq_; have BK108 := n0_; have HB := n1_; clear n0_ n1_)); have hcz7_0 : w6.cell? ⟨gb108, 0, none⟩ = some (.int .i64 0) := (blk_cell BK108.out 0).trans rfl; have hcz7_1 : w6.cell? ⟨gb108, 1, none⟩ = some (.int .i64 0) := (blk_cell BK108.out 1).trans rfl; have hcz7_2 : w6.cell? ⟨gb108, 2, none⟩ = some (.int .i64 0) := (blk_cell BK108.out 2).trans rfl; have hfz7_0 := blk_frozen BK108.out 0; have hfz7_1 := blk_frozen BK108.out 1; have hfz7_2 := blk_frozen BK108.out 2))
   refine bodyPost_ret (results_cell_row rfl _ _ gb108 46 #[.int .i64 a0, .int .i64 (Int.tmod a1 2), .int .i64 t109] (0, 0) _ rfl (by refine b_ ?_; refine blk_put (cs := #[.int .i64 a0, .int .i64 (Int.tmod a1 2), .int .i64 0]) ?_ 2 _ rfl; refine b_ ?_; refine blk_put (cs := #[.int .i64 a0, .int .i64 0, .int .i64 0]) ?_ 1 _ rfl; refine b_ ?_; refine blk_put (cs := #[.int .i64 0, .int .i64 0, .int .i64 0]) ?_ 0 _ rfl; exact b_ BK108.out) Tryz.underlying46 rfl (by kernel_rfl)) rfl ?_
   exact ⟨zR_, zs6_7⟩
 obtain ⟨H, c4b0, c4b1⟩ := en_ c4 H
 by_cases c8 : a0 = 1
 · obtain ⟨H, c8b0, c8b1⟩ := ep_ c8 H
   clear c8
   replace H := bd_ H; obtain ⟨t110, A9, H⟩ := H
   simp only [Option.some.injEq, Prod.mk.injEq] at H
   obtain ⟨rfl, rfl, rfl⟩ := H
   go_enter Tryz.func104, Tryz.ntmps104
   go_wp2_with (first | (refine bx_ 6 #[.int .i64 0, .int .i64 0, .int .i64 0] 46 ?_; intro gb108 hg w10 hbox hb; have BK108 := Aside0.mk (hbox); have GW108 : Aside0 (w.heap.size ≤ gb108) := bs_ hg zB_; have GE108 := GW108; replace HB := Aside0.mk (below_step zB_ hb); clear hb hbox hg) | ((with_reducible refine gc_ 108 rfl ?_); refine gL_ 26 Tryz.func108 #[.int .i64 a0, .int .i64 (Int.tmod a1 4), .string a2] ?_; (with_reducible refine (spec_pzValue.calls k a0 (Int.tmod a1 4) a2 t110 _ A9.out).mono ?_); rintro e w' ⟨rfl, ⟨nd, rfl⟩⟩; refine ⟨_, rfl, ?_⟩; (try (rw [drewN_self w10]; generalize hq_ : World.drewN w10 _ = w10; have n0_ : Aside0 (w10.heap[gb108]? = some (.cells #[.int .i64 0, .int .i64 0, .int .i64 0] 46 (0, 0))) := ⟨zs6_5⟩; have n1_ : Aside0 (Below w.heap.size w w10) := ⟨zs6_6⟩; clear BK108 HB hq_; have BK108 := n0_; have HB := n1_; clear n0_ n1_)); have hcz11_0 : w10.cell? ⟨gb108, 0, none⟩ = some (.int .i64 0) := (blk_cell BK108.out 0).trans rfl; have hcz11_1 : w10.cell? ⟨gb108, 1, none⟩ = some (.int .i64 0) := (blk_cell BK108.out 1).trans rfl; have hcz11_2 : w10.cell? ⟨gb108, 2, none⟩ = some (.int .i64 0) := (blk_cell BK108.out 2).trans rfl; have hfz11_0 := blk_frozen BK108.out 0; have hfz11_1 := blk_frozen BK108.out 1; have hfz11_2 := blk_frozen BK108.out 2))
   refine bodyPost_ret (results_cell_row rfl _ _ gb108 46 #[.int .i64 a0, .int .i64 (Int.tmod a1 4), .int .i64 t110] (0, 0) _ rfl (by refine b_ ?_; refine blk_put (cs := #[.int .i64 a0, .int .i64 (Int.tmod a1 4), .int .i64 0]) ?_ 2 _ rfl; refine b_ ?_; refine blk_put (cs := #[.int .i64 a0, .int .i64 0, .int .i64 0]) ?_ 1 _ rfl; refine b_ ?_; refine blk_put (cs := #[.int .i64 0, .int .i64 0, .int .i64 0]) ?_ 0 _ rfl; exact b_ BK108.out) Tryz.underlying46 rfl (by kernel_rfl)) rfl ?_
   exact ⟨zR_, zs6_7⟩
 obtain ⟨H, c8b0, c8b1⟩ := en_ c8 H
 by_cases c12 : a0 = 3
 · obtain ⟨H, c12b0, c12b1⟩ := ep_ c12 H
   clear c12
   replace H := bd_ H; obtain ⟨t111, A13, H⟩ := H
   simp only [Option.some.injEq, Prod.mk.injEq] at H
   obtain ⟨rfl, rfl, rfl⟩ := H
   go_enter Tryz.func104, Tryz.ntmps104
   go_wp2_with (first | (refine bx_ 6 #[.int .i64 0, .int .i64 0, .int .i64 0] 46 ?_; intro gb108 hg w14 hbox hb; have BK108 := Aside0.mk (hbox); have GW108 : Aside0 (w.heap.size ≤ gb108) := bs_ hg zB_; have GE108 := GW108; replace HB := Aside0.mk (below_step zB_ hb); clear hb hbox hg) | ((with_reducible refine gc_ 108 rfl ?_); refine gL_ 26 Tryz.func108 #[.int .i64 a0, .int .i64 (Int.tmod a1 3), .string a2] ?_; (with_reducible refine (spec_pzValue.calls k a0 (Int.tmod a1 3) a2 t111 _ A13.out).mono ?_); rintro e w' ⟨rfl, ⟨nd, rfl⟩⟩; refine ⟨_, rfl, ?_⟩; (try (rw [drewN_self w14]; generalize hq_ : World.drewN w14 _ = w14; have n0_ : Aside0 (w14.heap[gb108]? = some (.cells #[.int .i64 0, .int .i64 0, .int .i64 0] 46 (0, 0))) := ⟨zs6_5⟩; have n1_ : Aside0 (Below w.heap.size w w14) := ⟨zs6_6⟩; clear BK108 HB hq_; have BK108 := n0_; have HB := n1_; clear n0_ n1_)); have hcz15_0 : w14.cell? ⟨gb108, 0, none⟩ = some (.int .i64 0) := (blk_cell BK108.out 0).trans rfl; have hcz15_1 : w14.cell? ⟨gb108, 1, none⟩ = some (.int .i64 0) := (blk_cell BK108.out 1).trans rfl; have hcz15_2 : w14.cell? ⟨gb108, 2, none⟩ = some (.int .i64 0) := (blk_cell BK108.out 2).trans rfl; have hfz15_0 := blk_frozen BK108.out 0; have hfz15_1 := blk_frozen BK108.out 1; have hfz15_2 := blk_frozen BK108.out 2))
   refine bodyPost_ret (results_cell_row rfl _ _ gb108 46 #[.int .i64 a0, .int .i64 (Int.tmod a1 3), .int .i64 t111] (0, 0) _ rfl (by refine b_ ?_; refine blk_put (cs := #[.int .i64 a0, .int .i64 (Int.tmod a1 3), .int .i64 0]) ?_ 2 _ rfl; refine b_ ?_; refine blk_put (cs := #[.int .i64 a0, .int .i64 0, .int .i64 0]) ?_ 1 _ rfl; refine b_ ?_; refine blk_put (cs := #[.int .i64 0, .int .i64 0, .int .i64 0]) ?_ 0 _ rfl; exact b_ BK108.out) Tryz.underlying46 rfl (by kernel_rfl)) rfl ?_
   exact ⟨zR_, zs6_7⟩
 obtain ⟨H, c12b0, c12b1⟩ := en_ c12 H
 replace H := bd_ H; obtain ⟨t112, A16, H⟩ := H
 simp only [Option.some.injEq, Prod.mk.injEq] at H
 obtain ⟨rfl, rfl, rfl⟩ := H
 go_enter Tryz.func104, Tryz.ntmps104
 go_wp2_with (first | (refine bx_ 6 #[.int .i64 0, .int .i64 0, .int .i64 0] 46 ?_; intro gb108 hg w17 hbox hb; have BK108 := Aside0.mk (hbox); have GW108 : Aside0 (w.heap.size ≤ gb108) := bs_ hg zB_; have GE108 := GW108; replace HB := Aside0.mk (below_step zB_ hb); clear hb hbox hg) | ((with_reducible refine gc_ 108 rfl ?_); refine gL_ 26 Tryz.func108 #[.int .i64 a0, .int .i64 0, .string a2] ?_; (with_reducible refine (spec_pzValue.calls k a0 0 a2 t112 _ A16.out).mono ?_); rintro e w' ⟨rfl, ⟨nd, rfl⟩⟩; refine ⟨_, rfl, ?_⟩; (try (rw [drewN_self w17]; generalize hq_ : World.drewN w17 _ = w17; have n0_ : Aside0 (w17.heap[gb108]? = some (.cells #[.int .i64 0, .int .i64 0, .int .i64 0] 46 (0, 0))) := ⟨zs6_5⟩; have n1_ : Aside0 (Below w.heap.size w w17) := ⟨zs6_6⟩; clear BK108 HB hq_; have BK108 := n0_; have HB := n1_; clear n0_ n1_)); have hcz18_0 : w17.cell? ⟨gb108, 0, none⟩ = some (.int .i64 0) := (blk_cell BK108.out 0).trans rfl; have hcz18_1 : w17.cell? ⟨gb108, 1, none⟩ = some (.int .i64 0) := (blk_cell BK108.out 1).trans rfl; have hcz18_2 : w17.cell? ⟨gb108, 2, none⟩ = some (.int .i64 0) := (blk_cell BK108.out 2).trans rfl; have hfz18_0 := blk_frozen BK108.out 0; have hfz18_1 := blk_frozen BK108.out 1; have hfz18_2 := blk_frozen BK108.out 2))
 refine bodyPost_ret (results_cell_row rfl _ _ gb108 46 #[.int .i64 a0, .int .i64 0, .int .i64 t112] (0, 0) _ rfl (by refine b_ ?_; refine blk_put (cs := #[.int .i64 a0, .int .i64 0, .int .i64 0]) ?_ 2 _ rfl; refine b_ ?_; refine blk_put (cs := #[.int .i64 a0, .int .i64 0, .int .i64 0]) ?_ 1 _ rfl; refine b_ ?_; refine blk_put (cs := #[.int .i64 0, .int .i64 0, .int .i64 0]) ?_ 0 _ rfl; exact b_ BK108.out) Tryz.underlying46 rfl (by kernel_rfl)) rfl ?_
 exact ⟨zR_, zs6_7⟩

/-! ### spec_MakePuzzle: function 74 -/
mutual
def spec_MakePuzzle.j0 : Nat → ByteArray → Int → Int → Bool → Option ((List (S46)) × Bool)
 | 0, _, _, _, _ => none
 | k + 1, x0, x1, x2, x23 => if x23 = true then (some (([] : List (S46)), false)) else (spec_MakePuzzle.l0 k x0 x1 x2 ([] : List (S46)))
def spec_MakePuzzle.l0 : Nat → ByteArray → Int → Int → List (S46) → Option ((List (S46)) × Bool)
 | 0, _, _, _, _ => none
 | k + 1, x0, x1, x9, x118000 => if x1 > 0 then ((spec_pzNext.f x9).bind fun t118 => ((spec_pzNext.f t118).bind fun t119 => ((spec_pzOf.f k (Int.tmod t118 5) t119 x0).bind fun bt120 => (if x118000.length < 5864062014805 then (spec_MakePuzzle.l0 k x0 (wrap64 (x1 - 1)) t119 (x118000 ++ [(⟨bt120.1, bt120.2.1, bt120.2.2⟩ : S46)])) else (none))))) else (some (x118000, true))
end
def spec_MakePuzzle.f (k : Nat) (a0 : ByteArray) (a1 : Int) (a2 : Int) : Option ((List (S46)) × Bool) := (spec_pzHidden.f k a0).bind fun t114 => (if t114 = true then ((spec_l1In.f a1 0 6).bind fun t115 => (if t115 = true then ((spec_l1In.f a2 0 9999).bind fun t116 => (spec_MakePuzzle.j0 k a0 a1 a2 (!t116))) else (spec_MakePuzzle.j0 k a0 a1 a2 true))) else (spec_MakePuzzle.j0 k a0 a1 a2 true))
theorem spec_MakePuzzle.mono_l : ∀ k, (∀ y0 y1 y2 y3, LeO (spec_MakePuzzle.j0 k y0 y1 y2 y3) (spec_MakePuzzle.j0 (k + 1) y0 y1 y2 y3)) ∧ (∀ y0 y1 y2 y3, LeO (spec_MakePuzzle.l0 k y0 y1 y2 y3) (spec_MakePuzzle.l0 (k + 1) y0 y1 y2 y3))
 | 0 => ⟨fun _ _ _ _ r h => by simp [spec_MakePuzzle.j0] at h, fun _ _ _ _ r h => by simp [spec_MakePuzzle.l0] at h⟩
 | k + 1 => by
  obtain ⟨ih0, ih1⟩ := spec_MakePuzzle.mono_l k
  refine ⟨?_, ?_⟩
  · intro y0 y1 y2 y3
    unfold spec_MakePuzzle.j0
    have m1_ := @ih0
    have m2_ := @ih1
    have m3_ := @spec_pzHidden.mono
    have m4_ := @spec_pzOf.mono
    exact zM_
  intro y0 y1 y2 y3
  unfold spec_MakePuzzle.l0
  have m1_ := @ih0
  have m2_ := @ih1
  have m3_ := @spec_pzHidden.mono
  have m4_ := @spec_pzOf.mono
  exact zM_
theorem spec_MakePuzzle.mono : ∀ a0 a1 a2 k, LeO (spec_MakePuzzle.f k a0 a1 a2) (spec_MakePuzzle.f (k + 1) a0 a1 a2) := by
 intro a0 a1 a2 k
 obtain ⟨ih0, ih1⟩ := spec_MakePuzzle.mono_l k
 unfold spec_MakePuzzle.f
 have m1_ := @ih0
 have m2_ := @ih1
 have m3_ := @spec_pzHidden.mono
 have m4_ := @spec_pzOf.mono
 exact zM_
def spec_MakePuzzle.T10 : Bool × List (List Nat × List Nat) := (true, [([], []), ([0], [0]), ([], []), ([], []), ([], []), ([2, 3, 4], [2, 3, 4]), ([5], [5]), ([1, 6, 5], [1, 6]), ([0, 1, 2, 3, 4, 5, 6, 7], []), ([8, 7, 7, 0, 1, 2, 3, 4, 5, 6, 7], [7, 8])])
def spec_MakePuzzle.B10 : List Nat := [0, 1, 0, 0, 0, 28, 60, 127, 255, 511]
theorem spec_MakePuzzle.tab10 : rtab .any (opsOf Tryz.f74 10) = spec_MakePuzzle.T10 := by kernel_rfl
theorem spec_MakePuzzle.bits10 : waitsOk spec_MakePuzzle.T10.2 spec_MakePuzzle.B10 = true := by kernel_rfl
theorem spec_MakePuzzle.calls (k : Nat) (a0 : ByteArray) (a1 : Int) (a2 : Int) (r1 : List (S46)) (r2 : Bool) (w : World) (h : spec_MakePuzzle.f k a0 a1 a2 = some (r1, r2)) :
 Calls Tryz.prog 74 #[.string a0, .int .i64 a1, .int .i64 a2] w fun e w' => ∃ v0_ : Value, e = .returned (.tuple #[.agg #[v0_], .bool r2]) ∧ Kd.R k46 46 w' w.heap.size (fun _ => True) v0_ r1 ∧ Below w.heap.size w w' := by
 have hu26 := Tryz.underlying26
 have HB := Aside0.mk (Below.refl w.heap.size w)
 unfold spec_MakePuzzle.f at h
 have H := h
 clear h
 have HC4 := Aside0.mk H
 clear H
 go_enter Tryz.func74, Tryz.ntmps74
 go_upto_region 1 with (first | (refine bx_ 6 #[.slice none 0 0] 26 ?_; intro gb113 hg w5 hbox hb; have BK113 := Aside0.mk (hbox); have GW113 : Aside0 (w.heap.size ≤ gb113) := bs_ hg zB_; have GE113 := GW113; replace HB := Aside0.mk (below_step zB_ hb); clear hb hbox hg))
 (try simp only [Act.put, List.setIfInBounds_toArray, List.set_cons_zero, List.set_cons_succ])
 go_cut [23] (fun v23 wc => ∃ (kq : Nat) (x23_3 : Bool), v23 = .bool x23_3 ∧ Aside0 (spec_MakePuzzle.j0 kq a0 a1 a2 x23_3 = some (r1, r2)) ∧ Aside0 (kq ≤ k) ∧ Aside0 (wc.heap[gb113]? = some (.cells #[(.slice none 0 0)] 26 (0, 0))) ∧ Aside0 (Below w.heap.size w wc))
 case first =>
  have H := HC4.out
  clear HC4
  replace H := bd_ H; obtain ⟨t114, A6, H⟩ := H
  by_cases c7 : t114 = true
  rotate_left
  · replace H := bf_ c7 H; obtain ⟨rfl, H⟩ := H
    have H' := Aside0.mk H
    clear H
    go_wp2_with (first | ((with_reducible refine gc_ 102 rfl ?_); refine gL_ 12 Tryz.func102 #[.string a0] ?_; (with_reducible refine (spec_pzHidden.calls k a0 false _ A6.out).mono ?_); rintro e w' ⟨rfl, ⟨nd, rfl⟩⟩; refine ⟨_, rfl, ?_⟩))
    go_meet
    case rel => exact ⟨_, (true), zV_, H', ⟨zs6_8⟩, ⟨b_ BK113.out⟩, ⟨zs6_9⟩⟩
  subst c7
  rw [if_pos rfl] at H
  replace H := bd_ H; obtain ⟨t115, A8, H⟩ := H
  by_cases c9 : t115 = true
  · subst c9
    rw [if_pos rfl] at H
    replace H := bd_ H; obtain ⟨t116, A10, H⟩ := H
    have H' := Aside0.mk H
    clear H
    go_wp2_with (first | ((with_reducible refine gc_ 102 rfl ?_); refine gL_ 12 Tryz.func102 #[.string a0] ?_; (with_reducible refine (spec_pzHidden.calls k a0 true _ A6.out).mono ?_); rintro e w' ⟨rfl, ⟨nd, rfl⟩⟩; refine ⟨_, rfl, ?_⟩) | (go_at_call 81; (with_reducible refine (spec_l1In.calls a1 0 6 true _ A8.out).mono ?_); rintro e w' ⟨rfl, ⟨nd, rfl⟩⟩) | (go_at_call 81; (with_reducible refine (spec_l1In.calls a2 0 9999 t116 _ A10.out).mono ?_); rintro e w' ⟨rfl, ⟨nd, rfl⟩⟩))
    go_meet
    case rel => exact ⟨_, (!t116), zV_, H', ⟨zs6_8⟩, ⟨b_ BK113.out⟩, ⟨zs6_9⟩⟩
  replace H := bf_ c9 H; obtain ⟨rfl, H⟩ := H
  have H' := Aside0.mk H
  clear H
  go_wp2_with (first | ((with_reducible refine gc_ 102 rfl ?_); refine gL_ 12 Tryz.func102 #[.string a0] ?_; (with_reducible refine (spec_pzHidden.calls k a0 true _ A6.out).mono ?_); rintro e w' ⟨rfl, ⟨nd, rfl⟩⟩; refine ⟨_, rfl, ?_⟩) | (go_at_call 81; (with_reducible refine (spec_l1In.calls a1 0 6 false _ A8.out).mono ?_); rintro e w' ⟨rfl, ⟨nd, rfl⟩⟩))
  go_meet
  case rel => exact ⟨_, (true), zV_, H', ⟨zs6_8⟩, ⟨b_ BK113.out⟩, ⟨zs6_9⟩⟩
 case rest =>
  clear HC4
  obtain ⟨kq, x23_3, rfl, HA, HJ3, BK113, HB⟩ := hcut
  cases kq with
  | zero => exact absurd HA.out (by simp [spec_MakePuzzle.j0])
  | succ kj3 =>
   have H := HA.out
   clear HA
   simp only [spec_MakePuzzle.j0] at H
   by_cases c11 : x23_3 = true
   · subst c11
     rw [if_pos rfl] at H
     simp only [Option.some.injEq, Prod.mk.injEq] at H
     obtain ⟨rfl, rfl⟩ := H
     have hcz12_0 : wc.cell? ⟨gb113, 0, none⟩ = some (.slice none 0 0) := (blk_cell BK113.out 0).trans rfl
     have hfz12_0 := blk_frozen BK113.out 0
     go_wp2
     refine bodyPost_ret (results_ct rfl _ _ gb113 26 #[.slice none 0 0] (0, 0) _ rfl z3_5_ Tryz.underlying26 rfl (by kernel_rfl)) rfl ?_
     exact ⟨_, zs6_10, zs6_11, zs6_9⟩
   replace H := bf_ c11 H; obtain ⟨rfl, H⟩ := H
   have H' := Aside0.mk H
   clear H
   go_wp2_with (first | (refine bx_ 8 #[.slice none 0 0] 26 ?_; intro gb117 hg w13 hbox hb; have BK117 := Aside0.mk (hbox); have GW117 : Aside0 (w.heap.size ≤ gb117) := bs_ hg z3_7_; have GE117 := GW117; replace HB := Aside0.mk (below_step z3_7_ hb); have NB113_117 := nl_ BK113 z3_3_ hg; have NB117_113 := ns_ NB113_117; replace BK113 := bb_ BK113 z3_3_ hb; clear hb hbox hg; have hnb14 := NB117_113.out; have hnc14 := NB113_117.out; have hcz15_0 : w13.cell? ⟨gb117, 0, none⟩ = some (.slice none 0 0) := (blk_cell BK117.out 0).trans rfl; have hfz15_0 := blk_frozen BK117.out 0))
   go_loopg [1, 9] kj3 (fun kq v1 v9 w' => ∃ (x1_2 : Int) (x9_2 : Int) (x118000_2 : List (S46)) (u118000 : Value), v1 = .int .i64 x1_2 ∧ v9 = .int .i64 x9_2 ∧ Aside0 (spec_MakePuzzle.l0 kq a0 x1_2 x9_2 x118000_2 = some (r1, r2)) ∧ Aside0 (kq ≤ kj3) ∧ Aside0 (Kd.R k46 46 w' w.heap.size (fun _ => True) u118000 x118000_2) ∧ Aside0 (w'.heap[gb113]? = some (.cells #[(.slice none 0 0)] 26 (0, 0))) ∧ Aside0 (w'.heap[gb117]? = some (.cells #[u118000] 26 (0, 0))) ∧ Aside0 (Below w.heap.size w w'))
   case atStart => exact ⟨(a1), (a2), (([] : List (S46))), (.slice none 0 0), zV_, zV_, H', ⟨Nat.le_refl _⟩, ⟨zs6_11⟩, ⟨zs6_12⟩, ⟨by refine b_ ?_; refine blk_put (cs := #[.slice none 0 0]) ?_ 0 _ rfl; exact b_ BK117.out⟩, ⟨zs6_13⟩⟩
   case round =>
    clear H'
    obtain ⟨x1_2, x9_2, x118000_2, u118000, rfl, rfl, HA, HK2, HO_118000, BK113, BK117, HB⟩ := hrel
    cases gk with
    | zero => exact absurd HA.out (by simp [spec_MakePuzzle.l0])
    | succ k2 =>
     have H := HA.out
     clear HA
     simp only [spec_MakePuzzle.l0] at H
     by_cases c16 : x1_2 > 0
     · rw [if_pos c16] at H
       have c16b0 : decide (0 < x1_2) = true := decide_eq_true c16
       clear c16
       replace H := bd_ H; obtain ⟨t118, A17, H⟩ := H
       replace H := bd_ H; obtain ⟨t119, A18, H⟩ := H
       replace H := bd_ H; obtain ⟨⟨t120, t121, t122⟩, A19, H⟩ := H
       dsimp only at H
       replace H := gd_ H; obtain ⟨c20, H⟩ := H
       have LMc20 := Aside0.mk c20
       clear c20
       obtain ⟨y123, hy123⟩ : ∃ y_ : List (S46), y_ = (x118000_2 ++ [(⟨t120, t121, t122⟩ : S46)]) := ⟨_, rfl⟩
       replace H : (spec_MakePuzzle.l0 k2 a0 (wrap64 (x1_2 - 1)) t119 y123) = some (r1, r2) := by first | (rw [hy123]; with_reducible exact H) | (have H2_ := (Option.bind_some _ _).symm.trans H; rw [hy123]; with_reducible exact H2_) | (have H2_ := (Option.bind_some _ _).symm.trans H; with_reducible exact H2_) | with_reducible exact H | (rw [hy123]; exact H) | exact H
       have Ny123 := Aside0.mk hy123
       clear hy123
       have H' := Aside0.mk H
       clear H
       try go_wp2_with (first | ((with_reducible refine gc_ 103 rfl ?_); refine gL_ 32 Tryz.func103 #[.int .i64 x9_2] ?_; (with_reducible refine (spec_pzNext.calls x9_2 t118 _ A17.out).mono ?_); rintro e w' ⟨rfl, ⟨nd, rfl⟩⟩; refine ⟨_, rfl, ?_⟩; (try (rw [drewN_self wr]; generalize hq_ : World.drewN wr _ = wr; have n0_ : Aside0 (Kd.R k46 46 wr w.heap.size (fun _ => True) u118000 x118000_2) := ⟨by rw [← hq_]; exact z3_10_⟩; have n1_ : Aside0 (wr.heap[gb113]? = some (.cells #[.slice none 0 0] 26 (0, 0))) := ⟨by rw [← hq_]; exact z3_3_⟩; have n2_ : Aside0 (wr.heap[gb117]? = some (.cells #[u118000] 26 (0, 0))) := ⟨by rw [← hq_]; exact z3_9_⟩; have n3_ : Aside0 (Below w.heap.size w wr) := ⟨by rw [← hq_]; exact z3_2_⟩; clear HO_118000 BK113 BK117 HB hq_; have HO_118000 := n0_; have BK113 := n1_; have BK117 := n2_; have HB := n3_; clear n0_ n1_ n2_ n3_))) | ((with_reducible refine gc_ 103 rfl ?_); refine gL_ 36 Tryz.func103 #[.int .i64 t118] ?_; (with_reducible refine (spec_pzNext.calls t118 t119 _ A18.out).mono ?_); rintro e w' ⟨rfl, ⟨nd, rfl⟩⟩; refine ⟨_, rfl, ?_⟩; (try (rw [drewN_self wr]; generalize hq_ : World.drewN wr _ = wr; have n0_ : Aside0 (Kd.R k46 46 wr w.heap.size (fun _ => True) u118000 x118000_2) := ⟨by rw [← hq_]; exact z3_10_⟩; have n1_ : Aside0 (wr.heap[gb113]? = some (.cells #[.slice none 0 0] 26 (0, 0))) := ⟨by rw [← hq_]; exact z3_3_⟩; have n2_ : Aside0 (wr.heap[gb117]? = some (.cells #[u118000] 26 (0, 0))) := ⟨by rw [← hq_]; exact z3_9_⟩; have n3_ : Aside0 (Below w.heap.size w wr) := ⟨by rw [← hq_]; exact z3_2_⟩; clear HO_118000 BK113 BK117 HB hq_; have HO_118000 := n0_; have BK113 := n1_; have BK117 := n2_; have HB := n3_; clear n0_ n1_ n2_ n3_))))
       replace HO_118000 := Aside0.mk (Kd.R_drew HO_118000.out)
       replace BK113 := Aside0.mk (blk_drew BK113.out)
       replace BK117 := Aside0.mk (blk_drew BK117.out)
       replace HB := Aside0.mk (below_drew1 HB.out)
       refine start_ (n := 10) (S := fun w' => w'.cell? ⟨gb117, 0, none⟩ = some (u118000)) (ds := [9]) #[false, false, false, false, false, false, false, false, false, false] (by kernel_rfl) rfl rfl ((blk_cell BK117.out 0).trans rfl) (fun hHeld => ?_); refine with_tabW spec_MakePuzzle.tab10 spec_MakePuzzle.bits10 (fun HT_ HW_ => ?_)
       generalize wr.drew = w21 at HO_118000 BK113 BK117 HB hHeld ⊢
       refine pq_ 0 37 ?_
       refine pq_ 2 39 ?_
       refine pq_ 3 40 ?_
       refine pq_ 4 41 ?_
       refine take_ (i := 1) (N := some 38) (v := ?_) (a' := ?_) #[true, true, true, true, true, false, false, false, false, false] rfl rfl (take_ofW HT_.out HW_.out (by kernel_rfl)) (fun _ _ _ h => h) (Or.inl ⟨by rfl, ?_⟩) hHeld ?_ ?_
       rotate_left
       · intro w' s0
         go_simp
         with_reducible rfl
       rotate_left
       · simp only [Act.put, List.setIfInBounds_toArray, List.set_cons_zero, List.set_cons_succ, i64_w, i32_w]
         rfl
       refine one_ (i := 5) (N := some 42) #[true, true, true, true, true, true, false, false, false, false] rfl rfl (one_of HT_.out (by kernel_rfl)) (by decide) (fun K hK => ?_)
       refine goes_ Tryz.func104 (by kernel_rfl) rfl #[.int .i64 (Int.tmod t118 5), .int .i64 t119, .string a0] (by rfl) rfl rfl z3_1_ ?_
       with_reducible refine (spec_pzOf.calls k2 (Int.tmod t118 5) t119 a0 t120 t121 t122 _ A19.out).mono ?_
       rintro e w22 ⟨rfl, hb⟩
       refine ⟨_, rfl, ?_⟩
       replace HO_118000 := Aside0.mk (Kd.R_below z3_10_ hb)
       replace BK113 := bb_ BK113 z3_3_ hb
       replace BK117 := bb_ BK117 z3_9_ hb
       replace HB := Aside0.mk (below_step z3_2_ hb)
       
       
       
       
       refine hK.out _ _ ((blk_cell BK117.out 0).trans rfl) (fun hHeld => ?_)
       clear hK K
       refine norm_ (a' := ?_) ?_ ?_
       rotate_left
       · show Act.put _ (some 42) _ = _
         simp only [Act.put, List.setIfInBounds_toArray, List.set_cons_zero, List.set_cons_succ, i64_w, i32_w]
         rfl
       refine one_ (i := 6) (N := some 43) #[true, true, true, true, true, true, true, false, false, false] rfl rfl (one_of HT_.out (by kernel_rfl)) (by decide) (fun K hK => ?_)
       refine value_ (w1 := ?_) (v := ?_) (by rfl) rfl ?_ ?_
       rotate_left 2
       · go_simp
         constructor
         · rfl
         rfl
       refine hK.out _ _ ((blk_cell (blk_alloc BK117.out _) 0).trans rfl) (fun hHeld => ?_)
       clear hK K
       refine norm_ (a' := ?_) ?_ ?_
       rotate_left
       · show Act.put _ (some 43) _ = _
         simp only [Act.put, List.setIfInBounds_toArray, List.set_cons_zero, List.set_cons_succ, i64_w, i32_w]
         rfl
       refine one_ (i := 7) (N := some 44) #[true, true, true, true, true, true, true, true, false, false] rfl rfl (one_of HT_.out (by kernel_rfl)) (by decide) (fun K hK => ?_)
       refine Kd.R_append_step k46 (w0 := w) w.heap.size (by rfl) (.tmp 38) (.tmp 43) 24 46 (.agg #[(.int .i64 0), (.int .i64 0), (.int .i64 0)]) 24 rfl Tryz.underlying24 info46 rfl (by decide) (by omega) u118000 x118000_2 (⟨t120, t121, t122⟩ : S46) [.int .i64 t120, .int .i64 t121, .int .i64 t122] (fun _ => True) (fun _ => False) rfl rfl ?aP (fun _ hk => hk.elim) ?aF ?aO ?aB ?aS ?aL ?_
       (case aP => exact k46_mkM _ _ _ (⟨t120, t121, t122⟩ : S46))
       (case aB => exact z3_2_)
       (case aF => exact (fun _ _ => trivial))
       (case aO => exact z3_10_)
       (case aS => exact (below_size z3_2_))
       (case aL => have := LMc20.out; omega)
       intro v124 w23 ho hb hg hat
       rw [← Ny123.out] at ho
       replace BK113 := Aside0.mk (blk_grown (g := gb113) (o := .cells #[.slice none 0 0] 26 (0, 0)) z3_3_ hg (Kd.R_ne HO_118000.out BK113.out (by decide)))
       replace BK117 := Aside0.mk (blk_grown (g := gb117) (o := .cells #[u118000] 26 (0, 0)) z3_9_ hg (Kd.R_ne HO_118000.out BK117.out (by decide)))
       replace HB := Aside0.mk (hb)
       have HO125 := Aside0.mk (ho)
       clear HO_118000
       clear ho hb hg hat
       obtain ⟨Ao24, co24, eo24⟩ := Kd.R_slice HO125.out
       (first | subst eo24 | (injection eo24 with f1_ f2_ f3_; have f4_ := f1_.symm; have f5_ := f3_.symm; clear f1_ f2_ f3_; subst f4_; subst f5_))
       refine hK.out _ _ ((blk_cell BK117.out 0).trans rfl) (fun hHeld => ?_)
       clear hK K
       refine norm_ (a' := ?_) ?_ ?_
       rotate_left
       · show Act.put _ (some 44) _ = _
         simp only [Act.put, List.setIfInBounds_toArray, List.set_cons_zero, List.set_cons_succ, i64_w, i32_w]
         rfl
       refine pq_ 8 45 ?_
       refine last_ (i := 9) (N := none) #[true, true, true, true, true, true, true, true, true, true] rfl rfl (one_of HT_.out (by kernel_rfl)) (by decide) (fun K hK => ?_)
       have hs25 : w23.cell? ⟨gb117, 0, none⟩ = some (u118000) := (blk_cell BK117.out 0).trans rfl
       have hfs25 := blk_frozen BK117.out 0
       have hns25_0 := NB113_117.out
       have hms25_0 := NB117_113.out
       refine skip_ (w1 := ?_) (by rfl) rfl ?_ ?_
       rotate_left
       · go_simp
         rfl
       refine hK.out _ _ ?_
       clear hK K
       refine done_ (done_of HT_.out (by kernel_rfl)) ?_
       try go_wp2
       go_roundg k2
       case measure => have := HJ3.out; have := HK2.out; omega
       case rel => exact ⟨(wrap64 (x1_2 - 1)), (t119), (y123), (.slice Ao24 y123.length co24), zV_, zV_, H', ⟨by have := HJ3.out; have := HK2.out; omega⟩, ⟨by refine rr_ ?_; exact Kd.R_mono (Kd.R_far (p := ⟨gb117, 0, none⟩) (Kd.R_types HO125.out BK117.out (by decide)) (fun _ hk => hk.2) (.slice Ao24 y123.length co24)) (fun _ hk => trivial)⟩, ⟨zs6_12⟩, ⟨by refine b_ ?_; refine blk_put (cs := #[u118000]) ?_ 0 _ rfl; exact b_ BK117.out⟩, ⟨zs6_13⟩⟩
     rw [if_neg c16] at H
     have c16b0 : decide (0 < x1_2) = false := decide_eq_false c16
     clear c16
     simp only [Option.some.injEq, Prod.mk.injEq] at H
     obtain ⟨rfl, rfl⟩ := H
     have hnb26 := NB117_113.out
     have hnc26 := NB113_117.out
     have hcz27_0 : wr.cell? ⟨gb117, 0, none⟩ = some (u118000) := (blk_cell BK117.out 0).trans rfl
     have hfz27_0 := blk_frozen BK117.out 0
     obtain ⟨Ao28, co28, eo28⟩ := Kd.R_slice HO_118000.out
     subst eo28
     have hcz29_0 : wr.cell? ⟨gb113, 0, none⟩ = some (.slice none 0 0) := (blk_cell BK113.out 0).trans rfl
     have hfz29_0 := blk_frozen BK113.out 0
     go_wp2
     refine bodyPost_ret (results_ct rfl _ _ gb113 26 #[.slice Ao28 x118000_2.length co28] (0, 0) _ rfl z3_5_ Tryz.underlying26 rfl (by kernel_rfl)) rfl ?_
     exact ⟨_, zs6_10, by refine rr_ ?_; exact Kd.R_mono (Kd.R_far (p := ⟨gb113, 0, none⟩) (Kd.R_types HO_118000.out BK113.out (by decide)) (fun _ hk => hk.2) (.slice Ao28 x118000_2.length co28)) (fun _ hk => trivial), zs6_13⟩

/-! ### spec_l1Num: function 67 -/
def spec_l1Num.f : Nat → Int → Option (ByteArray)
 | 0, _ => none
 | k + 1, a0 => if a0 < 10 then (some (strOfNums (([(wrap64 (48 + a0)) % 256] : List Int)))) else ((spec_l1Num.f k (wrap64 (Int.tdiv a0 10))).bind fun t129 => ((some (([(wrap64 (48 + (Int.tmod a0 10))) % 256] : List Int) : List Int)).bind fun y130 => (if t129.size + (strOfNums y130).size ≤ 9223372036854775807 then (some (t129 ++ (strOfNums y130))) else (none))))
theorem spec_l1Num.mono_l : ∀ k, (∀ y0, LeO (spec_l1Num.f k y0) (spec_l1Num.f (k + 1) y0))
 | 0 => fun _ r h => by simp [spec_l1Num.f] at h
 | k + 1 => by
  have ih0 := spec_l1Num.mono_l k
  intro y0
  unfold spec_l1Num.f
  have m1_ := @ih0
  exact zM_
theorem spec_l1Num.mono : ∀ a0 k, LeO (spec_l1Num.f k a0) (spec_l1Num.f (k + 1) a0) := by
 intro a0 k
 have ih0 := spec_l1Num.mono_l k
 exact ih0 a0
def spec_l1Num.T3 : Bool × List (List Nat × List Nat) := (true, [([], []), ([0], [0]), ([1], [1]), ([], []), ([3], [3]), ([4], [4]), ([5], [5]), ([6], [6]), ([7], [7]), ([2, 8], [2, 8]), ([9, 2, 0, 1, 2, 3, 4, 5, 6, 7, 8, 9], [9])])
def spec_l1Num.B3 : List Nat := [0, 1, 3, 0, 8, 24, 56, 120, 248, 511, 1023]
theorem spec_l1Num.tab3 : rtab .any (opsOf Tryz.f67 3) = spec_l1Num.T3 := by kernel_rfl
theorem spec_l1Num.bits3 : waitsOk spec_l1Num.T3.2 spec_l1Num.B3 = true := by kernel_rfl
theorem spec_l1Num.calls (k : Nat) : ∀ (a0 : Int) (r : ByteArray) (w : World) (h : spec_l1Num.f k a0 = some r),
 Calls Tryz.prog 67 #[.int .i64 a0] w fun e w' => e = .returned (.string r) ∧ Below w.heap.size w w' := by
 induction k using Nat.strongRecOn with
 | _ k ih =>
 intro a0 r w h
 cases k with
 | zero => exact absurd h (by simp [spec_l1Num.f])
 | succ k =>
 simp only [spec_l1Num.f] at h
 have HB := Aside0.mk (Below.refl w.heap.size w)
 have H : (if a0 < 10 then (some (strOfNums (([(wrap64 (48 + a0)) % 256] : List Int)))) else ((spec_l1Num.f k (wrap64 (Int.tdiv a0 10))).bind fun t129 => ((some (([(wrap64 (48 + (Int.tmod a0 10))) % 256] : List Int) : List Int)).bind fun y130 => (if t129.size + (strOfNums y130).size ≤ 9223372036854775807 then (some (t129 ++ (strOfNums y130))) else (none))))) = some r := h
 clear h
 by_cases c2 : a0 < 10
 · rw [if_pos c2] at H
   have c2b0 := decide_eq_true c2
   clear c2
   obtain ⟨y126, hy126⟩ : ∃ y_ : List Int, y_ = (([(wrap64 (48 + a0)) % 256] : List Int)) := ⟨_, rfl⟩
   replace H : (some (strOfNums y126)) = some r := by first | (rw [hy126]; with_reducible exact H) | (have H2_ := (Option.bind_some _ _).symm.trans H; rw [hy126]; with_reducible exact H2_) | (have H2_ := (Option.bind_some _ _).symm.trans H; with_reducible exact H2_) | with_reducible exact H | (rw [hy126]; exact H) | exact H
   have Ny126 := Aside0.mk hy126
   clear hy126
   obtain rfl := Option.some.inj H
   go_enter Tryz.func67, Tryz.ntmps67
   go_wp2_with (first | ((with_reducible refine gate_dst (N := 8) rfl ?_); refine Kd.R_lit (Kd.int .u8) _ 5 ?hg (N := 8) ?hd (xs := ([(wrap64 (48 + a0)) % 256] : List Int)) (inner := [.int .u8 ((wrap64 (48 + a0)) % 256)]) (ok := fun _ => True) (okp := fun _ => True) ?hr ?hp (fun _ hk => hk) trivial (Below.refl _ _) (Nat.le_refl _) (by simp) ?_; (case hd => rfl); (case hg => rfl); (case hr => first | (go_simp; done) | (go_simp; rfl)); (case hp => exact (Reps.one (show Kd.M (Kd.int .u8) _ _ _ ((wrap64 (48 + a0)) % 256) [.int .u8 ((wrap64 (48 + a0)) % 256)] from rfl) (Reps.none _ _))); intro v127 w3 ho4 hb hg_ hnew_; clear hg_ hnew_; (first | rw [← Ny126.out] at ho4 | (simp only [Int.reduceToNat] at ho4; rw [← Ny126.out] at ho4)); have HO128 := Aside0.mk (Kd.R_lower ho4 (below_size zB_)); replace HB := Aside0.mk (below_step zB_ hb); clear hb ho4; have hcv5 := own_string (P := Tryz.prog) Tryz.underlying22 Tryz.underlying5 Tryz.underlying9 (Kd.own_of_R HO128.out)))
   go_ret
   exact ⟨zR_, zB_⟩
 rw [if_neg c2] at H
 have c2b0 := decide_eq_false c2
 clear c2
 replace H := bd_ H; obtain ⟨t129, A6, H⟩ := H
 obtain ⟨y130, hy130⟩ : ∃ y_ : List Int, y_ = (([(wrap64 (48 + (Int.tmod a0 10))) % 256] : List Int)) := ⟨_, rfl⟩
 replace H : (if t129.size + (strOfNums y130).size ≤ 9223372036854775807 then (some (t129 ++ (strOfNums y130))) else (none)) = some r := by first | (rw [hy130]; with_reducible exact H) | (have H2_ := (Option.bind_some _ _).symm.trans H; rw [hy130]; with_reducible exact H2_) | (have H2_ := (Option.bind_some _ _).symm.trans H; with_reducible exact H2_) | with_reducible exact H | (rw [hy130]; exact H) | exact H
 have Ny130 := Aside0.mk hy130
 clear hy130
 replace H := gd_ H; obtain ⟨c7, H⟩ := H
 have c7b0 := eq_true c7
 have c7b1 : decide (t129.size + (strOfNums y130).size ≤ 9223372036854775807) = true := decide_eq_true c7
 try have c7b2 : (9223372036854775807 < t129.size + (strOfNums y130).size) = False := eq_false (Nat.not_lt.2 c7)
 obtain rfl := Option.some.inj H
 go_enter Tryz.func67, Tryz.ntmps67
 try go_wp2
 replace HB := Aside0.mk (below_drew1 HB.out)
 refine start_ (n := 11) (S := fun w' => True) (ds := []) #[false, false, false, false, false, false, false, false, false, false, false] (by kernel_rfl) rfl rfl trivial (fun hHeld => ?_); refine with_tabW spec_l1Num.tab3 spec_l1Num.bits3 (fun HT_ HW_ => ?_)
 generalize w.drew = w8 at HB hHeld ⊢
 refine pq_ 0 10 ?_
 refine pq_ 1 11 ?_
 refine pq_ 3 13 ?_
 refine pq_ 4 14 ?_
 refine pq_ 5 15 ?_
 refine pq_ 6 16 ?_
 refine join_ (σ := Value) 2 #[true, true, true, true, true, true, true, true, true, false, false] (fun s_ => [(12, .string t129), (17, s_), (18, .string (strOfNums y130))]) (fun s_ w' => (Kd.R (Kd.int .u8) 5 w' w.heap.size (fun _ => True) s_ y130) ∧ (Below w.heap.size w w')) ?_ ?_
 rotate_left
 · intro hCont
   refine two_ (i := 2) (j := 7) (Ni := some 12) (Nj := some 17) #[true, true, true, true, true, true, true, false, false, false, false] #[true, true, false, true, true, true, true, true, false, false, false] rfl rfl rfl rfl (two_of HT_.out (by kernel_rfl)) (by decide) (by decide) (fun K hK => ?_) (fun K hK => ?_)
   · skip
     refine goes_ Tryz.func67 (by kernel_rfl) rfl #[.int .i64 (wrap64 (Int.tdiv a0 10))] (by rfl) rfl rfl z3_1_ ?_
     with_reducible refine (ih k (by omega) (wrap64 (Int.tdiv a0 10)) t129 _ A6.out).mono ?_
     rintro e w9 ⟨rfl, hb⟩
     refine ⟨_, rfl, ?_⟩
     replace HB := Aside0.mk (below_step zB_ hb)
     
     
     
     
     refine hK.out _ _ trivial (fun hHeld => ?_)
     clear hK K
     refine norm_ (a' := ?_) ?_ ?_
     rotate_left
     · show Act.put _ (some 12) _ = _
       simp only [Act.put, List.setIfInBounds_toArray, List.set_cons_zero, List.set_cons_succ, i64_w, i32_w]
       rfl
     refine one_ (i := 7) (N := some 17) #[true, true, true, true, true, true, true, true, false, false, false] rfl rfl (one_of HT_.out (by kernel_rfl)) (by decide) (fun K hK => ?_)
     refine Kd.R_lit_step (Kd.int .u8) _ 5 ?hg (N := 17) ?hd (xs := ([(wrap64 (48 + (Int.tmod a0 10))) % 256] : List Int)) (inner := [.int .u8 ((wrap64 (48 + (Int.tmod a0 10))) % 256)]) (ok := fun _ => True) (okp := fun _ => True) ?hr ?hp (fun _ hk => hk) trivial (Below.refl _ _) (Nat.le_refl _) (by simp) ?_; (case hd => rfl); (case hg => rfl); (case hr => first | (go_simp; done) | (go_simp; rfl)); (case hp => exact zc6_10_)
     intro v131 w10 ho11 hb hg_ hnew_
     clear hg_ hnew_
     (first | rw [← Ny130.out] at ho11 | (simp only [Int.reduceToNat] at ho11; rw [← Ny130.out] at ho11))
     have HO132 := Aside0.mk (Kd.R_lower ho11 (below_size zB_))
     replace HB := Aside0.mk (below_step zB_ hb)
     clear hb ho11
     refine hK.out _ _ trivial (fun hHeld => ?_)
     clear hK K
     refine norm_ (a' := ?_) ?_ ?_
     rotate_left
     · show Act.put _ (some 17) _ = _
       simp only [Act.put, List.setIfInBounds_toArray, List.set_cons_zero, List.set_cons_succ, i64_w, i32_w]
       rfl
     refine one_ (i := 8) (N := some 18) #[true, true, true, true, true, true, true, true, true, false, false] rfl rfl (one_of HT_.out (by kernel_rfl)) (by decide) (fun K hK => ?_)
     have hcv12 := own_string (P := Tryz.prog) Tryz.underlying22 Tryz.underlying5 Tryz.underlying9 (Kd.own_of_R HO132.out)
     refine value_ (w1 := ?_) (v := ?_) (by rfl) rfl ?_ ?_
     rotate_left 2
     · go_simp
       constructor
       · rfl
       rfl
     clear hcv12
     refine hK.out _ _ trivial (fun hHeld => ?_)
     clear hK K
     refine norm_ (a' := ?_) ?_ ?_
     rotate_left
     · show Act.put _ (some 18) _ = _
       simp only [Act.put, List.setIfInBounds_toArray, List.set_cons_zero, List.set_cons_succ, i64_w, i32_w]
       rfl
     exact norm_ zq6_1_ (hCont (v131) _ ⟨z3_6_, zB_⟩)
   skip
   refine Kd.R_lit_step (Kd.int .u8) _ 5 ?hg (N := 17) ?hd (xs := ([(wrap64 (48 + (Int.tmod a0 10))) % 256] : List Int)) (inner := [.int .u8 ((wrap64 (48 + (Int.tmod a0 10))) % 256)]) (ok := fun _ => True) (okp := fun _ => True) ?hr ?hp (fun _ hk => hk) trivial (Below.refl _ _) (Nat.le_refl _) (by simp) ?_; (case hd => rfl); (case hg => rfl); (case hr => first | (go_simp; done) | (go_simp; rfl)); (case hp => exact zc6_10_)
   intro v131 w9 ho10 hb hg_ hnew_
   clear hg_ hnew_
   (first | rw [← Ny130.out] at ho10 | (simp only [Int.reduceToNat] at ho10; rw [← Ny130.out] at ho10))
   have HO132 := Aside0.mk (Kd.R_lower ho10 (below_size zB_))
   replace HB := Aside0.mk (below_step zB_ hb)
   clear hb ho10
   refine hK.out _ _ trivial (fun hHeld => ?_)
   clear hK K
   refine norm_ (a' := ?_) ?_ ?_
   rotate_left
   · show Act.put _ (some 17) _ = _
     simp only [Act.put, List.setIfInBounds_toArray, List.set_cons_zero, List.set_cons_succ, i64_w, i32_w]
     rfl
   refine two_ (i := 2) (j := 8) (Ni := some 12) (Nj := some 18) #[true, true, true, true, true, true, true, true, false, false, false] #[true, true, false, true, true, true, true, true, true, false, false] rfl rfl rfl rfl (two_of HT_.out (by kernel_rfl)) (by decide) (by decide) (fun K hK => ?_) (fun K hK => ?_)
   · skip
     refine goes_ Tryz.func67 (by kernel_rfl) rfl #[.int .i64 (wrap64 (Int.tdiv a0 10))] (by rfl) rfl rfl z3_1_ ?_
     with_reducible refine (ih k (by omega) (wrap64 (Int.tdiv a0 10)) t129 _ A6.out).mono ?_
     rintro e w11 ⟨rfl, hb⟩
     refine ⟨_, rfl, ?_⟩
     replace HO132 := Aside0.mk (Kd.R_below z3_6_ hb)
     replace HB := Aside0.mk (below_step zB_ hb)
     
     
     
     
     refine hK.out _ _ trivial (fun hHeld => ?_)
     clear hK K
     refine norm_ (a' := ?_) ?_ ?_
     rotate_left
     · show Act.put _ (some 12) _ = _
       simp only [Act.put, List.setIfInBounds_toArray, List.set_cons_zero, List.set_cons_succ, i64_w, i32_w]
       rfl
     refine one_ (i := 8) (N := some 18) #[true, true, true, true, true, true, true, true, true, false, false] rfl rfl (one_of HT_.out (by kernel_rfl)) (by decide) (fun K hK => ?_)
     have hcv12 := own_string (P := Tryz.prog) Tryz.underlying22 Tryz.underlying5 Tryz.underlying9 (Kd.own_of_R HO132.out)
     refine value_ (w1 := ?_) (v := ?_) (by rfl) rfl ?_ ?_
     rotate_left 2
     · go_simp
       constructor
       · rfl
       rfl
     clear hcv12
     refine hK.out _ _ trivial (fun hHeld => ?_)
     clear hK K
     refine norm_ (a' := ?_) ?_ ?_
     rotate_left
     · show Act.put _ (some 18) _ = _
       simp only [Act.put, List.setIfInBounds_toArray, List.set_cons_zero, List.set_cons_succ, i64_w, i32_w]
       rfl
     exact norm_ zq6_1_ (hCont (v131) _ ⟨z3_6_, zB_⟩)
   skip
   have hcv11 := own_string (P := Tryz.prog) Tryz.underlying22 Tryz.underlying5 Tryz.underlying9 (Kd.own_of_R HO132.out)
   refine value_ (w1 := ?_) (v := ?_) (by rfl) rfl ?_ ?_
   rotate_left 2
   · go_simp
     constructor
     · rfl
     rfl
   clear hcv11
   refine hK.out _ _ trivial (fun hHeld => ?_)
   clear hK K
   refine norm_ (a' := ?_) ?_ ?_
   rotate_left
   · show Act.put _ (some 18) _ = _
     simp only [Act.put, List.setIfInBounds_toArray, List.set_cons_zero, List.set_cons_succ, i64_w, i32_w]
     rfl
   refine one_ (i := 2) (N := some 12) #[true, true, true, true, true, true, true, true, true, false, false] rfl rfl (one_of HT_.out (by kernel_rfl)) (by decide) (fun K hK => ?_)
   refine goes_ Tryz.func67 (by kernel_rfl) rfl #[.int .i64 (wrap64 (Int.tdiv a0 10))] (by rfl) rfl rfl z3_1_ ?_
   with_reducible refine (ih k (by omega) (wrap64 (Int.tdiv a0 10)) t129 _ A6.out).mono ?_
   rintro e w12 ⟨rfl, hb⟩
   refine ⟨_, rfl, ?_⟩
   replace HO132 := Aside0.mk (Kd.R_below z3_6_ hb)
   replace HB := Aside0.mk (below_step zB_ hb)
   
   
   
   
   refine hK.out _ _ trivial (fun hHeld => ?_)
   clear hK K
   refine norm_ (a' := ?_) ?_ ?_
   rotate_left
   · show Act.put _ (some 12) _ = _
     simp only [Act.put, List.setIfInBounds_toArray, List.set_cons_zero, List.set_cons_succ, i64_w, i32_w]
     rfl
   exact norm_ zq6_1_ (hCont (v131) _ ⟨z3_6_, zB_⟩)
 rintro v131 w13 ⟨h0_, h1_⟩
 have n0_ : Aside0 (Kd.R (Kd.int .u8) 5 w13 w.heap.size (fun _ => True) v131 y130) := ⟨h0_⟩
 have n1_ : Aside0 (Below w.heap.size w w13) := ⟨h1_⟩
 clear HB
 clear h0_ h1_
 have HO132 := n0_
 have HB := n1_
 clear n0_ n1_
 have hHeld := trivial
 refine norm_ (a' := ?_) ?_ ?_
 rotate_left
 · simp only [putAll, Act.put, List.setIfInBounds_toArray, List.set_cons_zero, List.set_cons_succ]
   rfl
 refine pq_ 9 19 ?_
 refine pq_ 10 2 ?_
 refine done_ (done_of HT_.out (by kernel_rfl)) ?_
 try go_wp2
 go_ret
 exact ⟨zR_, zB_⟩

theorem z4_0_ {p : Prop} (h : p := by repeat (first | (with_reducible first | exact HK.out | apply KeepBut.set_ | apply keep_drewN | apply keep_drew | apply keep_alloc | refine keep_far ?_ GW144.out _) | exact HK.out)) : p := h
theorem z4_1_ {p : Prop} (h : p := by (try simp only [List.map_toArray, List.map_cons, List.map_nil]); first | done | rfl | (simp only [List.length_drop, List.length_take]; rfl)) : p := h
theorem z4_2_ {p : Prop} (h : p := by repeat (first | (with_reducible first | exact HK.out | apply KeepBut.set_ | apply keep_drewN | apply keep_drew | apply keep_alloc) | exact HK.out)) : p := h
theorem z4_3_ {p : Prop} (h : p := by exact b_ BK144.out) : p := h
theorem z4_4_ {p : Prop} (h : p := by repeat (first | (with_reducible first | exact HI0.out | apply IsS68.alloc | apply IsS68.drewN | apply IsS68.drew | apply IsS68.set_1 | apply IsS68.set_2 | refine IsS68.far ?_ NB0_144.out _) | exact HI0.out)) : p := h

/-- A state of type 68 at block g of W; what its slices lead to came in by w0. -/
def IsS68 (w0 W : World) (g : Nat) (f0 : List Int) (f1 : Int) (f2 : Int) : Prop := ∃ A0 c0, W.heap[g]? = some (.cells #[.slice A0 f0.length c0, .int .i64 f1, .int .u64 f2] 68 (0, 0)) ∧ w0.heap.size ≤ g ∧ Kd.C (Kd.int .u8) w0 A0 f0.length f0
theorem IsS68.grown {w0 W : World} {g : Nat} {f0 : List Int} {f1 : Int} {f2 : Int} {W1 : World} {row : Option Nat} (h : IsS68 w0 W g f0 f1 f2) (hw : W.grownBy W1 row) (hne : some g ≠ row) : IsS68 w0 W1 g f0 f1 f2 := by
 obtain ⟨A0, c0, hb, hg, hr0⟩ := h
 exact ⟨A0, c0, blk_grown hb hw hne, hg, hr0⟩
theorem IsS68.own_neN {w0 W : World} {g : Nat} {f0 : List Int} {f1 : Int} {f2 : Int} {α : Type} {d : Kd α} {e : Nat} {base : Nat} {ok : Nat → Prop} {v : Value} {xs : List α} (h : IsS68 w0 W g f0 f1 f2) (ho : Kd.N d e W base ok v xs) (ht : e ≠ 68) : some g ≠ v.ownBlock := by
 obtain ⟨A0, c0, hb, hg, hr0⟩ := h
 exact Kd.N_ne ho hb ht
theorem IsS68.fresh {w0 W : World} {g : Nat} {f0 : List Int} {f1 : Int} {f2 : Int} (h : IsS68 w0 W g f0 f1 f2) : ∀ k, W.heap.size ≤ k → k ≠ g := by
 obtain ⟨A0, c0, hb, hg, hr0⟩ := h
 exact Kd.freshB hb
theorem IsS68.kept {w0 W : World} {g : Nat} {f0 : List Int} {f1 : Int} {f2 : Int} {W1 : World} {S : Nat → Prop} (h : IsS68 w0 W g f0 f1 f2) (hk : Kept W W1 S) (hne : ¬ S g) : IsS68 w0 W1 g f0 f1 f2 := by
 obtain ⟨A0, c0, hb, hg, hr0⟩ := h
 exact ⟨A0, c0, blk_kept hb hk hne, hg, hr0⟩
theorem IsS68.below {w0 W : World} {g : Nat} {f0 : List Int} {f1 : Int} {f2 : Int} {W1 : World} (h : IsS68 w0 W g f0 f1 f2) (hw : Below W.heap.size W W1) : IsS68 w0 W1 g f0 f1 f2 := h.grown (grown_of_below hw none) (by simp)
theorem IsS68.alloc {w0 W : World} {g : Nat} {f0 : List Int} {f1 : Int} {f2 : Int} (h : IsS68 w0 W g f0 f1 f2) (o : Obj) : IsS68 w0 (W.alloc o) g f0 f1 f2 := h.below (below_alloc (Below.refl _ _) o)
theorem IsS68.drewN {w0 W : World} {g : Nat} {f0 : List Int} {f1 : Int} {f2 : Int} (h : IsS68 w0 W g f0 f1 f2) (m : Nat) : IsS68 w0 (W.drewN m) g f0 f1 f2 := h
theorem IsS68.drew {w0 W : World} {g : Nat} {f0 : List Int} {f1 : Int} {f2 : Int} (h : IsS68 w0 W g f0 f1 f2) : IsS68 w0 W.drew g f0 f1 f2 := h
theorem IsS68.at_ {w0 W : World} {g : Nat} {f0 : List Int} {f1 : Int} {f2 : Int} {w' : World} {m : Nat} (hq : W.drewN m = w') (h : IsS68 w0 W g f0 f1 f2) : IsS68 w0 w' g f0 f1 f2 := by subst hq; exact IsS68.drewN h m
theorem IsS68.apart {w0 W : World} {g : Nat} {f0 : List Int} {f1 : Int} {f2 : Int} {α : Type} {d : Kd α} {e : Nat} {base : Nat} {ok : Nat → Prop} {v : Value} {xs : List α} (h : IsS68 w0 W g f0 f1 f2) (ho : d.R e W base ok v xs) (ht : ∀ q, q ∈ e :: d.E → q ≠ 68) : d.R e W base (fun k => ok k ∧ k ≠ g) v xs := by
 obtain ⟨A0, c0, hb, hg, hr0⟩ := h
 exact Kd.R_types ho hb ht
theorem IsS68.own_ne {w0 W : World} {g : Nat} {f0 : List Int} {f1 : Int} {f2 : Int} {α : Type} {d : Kd α} {e : Nat} {base : Nat} {ok : Nat → Prop} {v : Value} {xs : List α} (h : IsS68 w0 W g f0 f1 f2) (ho : d.R e W base ok v xs) (ht : e ≠ 68) : some g ≠ v.ownBlock := by
 obtain ⟨A0, c0, hb, hg, hr0⟩ := h
 exact Kd.R_ne ho hb ht
theorem IsS68.apartQ {w0 W : World} {g : Nat} {f0 : List Int} {f1 : Int} {f2 : Int} {α : Type} {d : Kd α} {e : Nat} {base : Nat} {ok : Nat → Prop} {v : Value} {xs : List α} (h : IsS68 w0 W g f0 f1 f2) (ho : d.Q e W base ok v xs) (ht : ∀ q, q ∈ e :: d.E → q ≠ 68) : d.Q e W base (fun k => ok k ∧ k ≠ g) v xs := by
 obtain ⟨A0, c0, hb, hg, hr0⟩ := h
 exact Kd.Q_types ho hb ht
theorem IsS68.own_neQ {w0 W : World} {g : Nat} {f0 : List Int} {f1 : Int} {f2 : Int} {α : Type} {d : Kd α} {e : Nat} {base : Nat} {ok : Nat → Prop} {v : Value} {xs : List α} (h : IsS68 w0 W g f0 f1 f2) (ho : d.Q e W base ok v xs) (ht : e ≠ 68) : some g ≠ v.ownBlock := by
 obtain ⟨A0, c0, hb, hg, hr0⟩ := h
 exact Kd.Q_ne ho hb ht
theorem IsS68.apartS {w0 W : World} {g : Nat} {f0 : List Int} {f1 : Int} {f2 : Int} {α : Type} {d : Kd α} {e : Nat} {base : Nat} {ok : Nat → Prop} {v : Value} {xs : List α} (h : IsS68 w0 W g f0 f1 f2) (ho : d.S e W base ok v xs) (ht : ∀ q, q ∈ e :: d.E → q ≠ 68) : d.S e W base (fun k => ok k ∧ k ≠ g) v xs := by
 obtain ⟨A0, c0, hb, hg, hr0⟩ := h
 exact Kd.S_types ho hb ht
theorem IsS68.own_neS {w0 W : World} {g : Nat} {f0 : List Int} {f1 : Int} {f2 : Int} {α : Type} {d : Kd α} {e : Nat} {base : Nat} {ok : Nat → Prop} {v : Value} {xs : List α} (h : IsS68 w0 W g f0 f1 f2) (ho : d.S e W base ok v xs) (ht : e ≠ 68) : some g ≠ v.ownBlock := by
 obtain ⟨A0, c0, hb, hg, hr0⟩ := h
 exact Kd.S_ne ho hb ht
theorem IsS68.lt {w0 W : World} {g : Nat} {f0 : List Int} {f1 : Int} {f2 : Int} (h : IsS68 w0 W g f0 f1 f2) : g < W.heap.size := by
 obtain ⟨A0, c0, hb, hg, hr0⟩ := h
 exact blk_lt hb
theorem IsS68.ge {w0 W : World} {g : Nat} {f0 : List Int} {f1 : Int} {f2 : Int} (h : IsS68 w0 W g f0 f1 f2) : w0.heap.size ≤ g := by
 obtain ⟨A0, c0, hb, hg, hr0⟩ := h
 exact hg
theorem IsS68.ne_blk {w0 W : World} {g : Nat} {f0 : List Int} {f1 : Int} {f2 : Int} {a : Nat} {cs : Array Value} {t : TypeId} {fr : Nat × Nat} (h : IsS68 w0 W g f0 f1 f2) (hb2 : W.heap[a]? = some (.cells cs t fr)) (ht : t ≠ 68) : g ≠ a := by
 obtain ⟨A0, c0, hb, hg, hr0⟩ := h
 rintro rfl
 rw [hb] at hb2
 injection hb2 with hb2
 injection hb2 with _ ht2
 exact ht ht2.symm
theorem IsS68.far {w0 W : World} {g : Nat} {f0 : List Int} {f1 : Int} {f2 : Int} {p : Addr} (h : IsS68 w0 W g f0 f1 f2) (hne : g ≠ p.block) (u : Value) : IsS68 w0 (W.setCell p u) g f0 f1 f2 := by
 obtain ⟨A0, c0, hb, hg, hr0⟩ := h
 exact ⟨A0, c0, blk_far hb hne u, hg, hr0⟩
theorem cellS68_0 {W : World} {g : Nat} {A0 : Option Addr} {c0 : Nat} {f0 : List Int} {f1 : Int} {f2 : Int} (h : W.heap[g]? = some (.cells #[.slice A0 f0.length c0, .int .i64 f1, .int .u64 f2] 68 (0, 0))) : W.cell? ⟨g, 0, none⟩ = some (.slice A0 f0.length c0) := (blk_cell h 0).trans rfl
theorem cellS68_1 {W : World} {g : Nat} {A0 : Option Addr} {c0 : Nat} {f0 : List Int} {f1 : Int} {f2 : Int} (h : W.heap[g]? = some (.cells #[.slice A0 f0.length c0, .int .i64 f1, .int .u64 f2] 68 (0, 0))) : W.cell? ⟨g, 1, none⟩ = some (.int .i64 f1) := (blk_cell h 1).trans rfl
theorem IsS68.set_1 {w0 W : World} {g : Nat} {f0 : List Int} {f1 : Int} {f2 : Int} (h : IsS68 w0 W g f0 f1 f2) (x : Int) : IsS68 w0 (W.setCell ⟨g, 1, none⟩ (.int .i64 x)) g f0 x f2 := by
 obtain ⟨A0, c0, hb, hg, hr0⟩ := h
 exact ⟨A0, c0, by simpa using blk_set hb 1 (.int .i64 x), hg, hr0⟩
theorem cellS68_2 {W : World} {g : Nat} {A0 : Option Addr} {c0 : Nat} {f0 : List Int} {f1 : Int} {f2 : Int} (h : W.heap[g]? = some (.cells #[.slice A0 f0.length c0, .int .i64 f1, .int .u64 f2] 68 (0, 0))) : W.cell? ⟨g, 2, none⟩ = some (.int .u64 f2) := (blk_cell h 2).trans rfl
theorem IsS68.set_2 {w0 W : World} {g : Nat} {f0 : List Int} {f1 : Int} {f2 : Int} (h : IsS68 w0 W g f0 f1 f2) (x : Int) : IsS68 w0 (W.setCell ⟨g, 2, none⟩ (.int .u64 x)) g f0 f1 x := by
 obtain ⟨A0, c0, hb, hg, hr0⟩ := h
 exact ⟨A0, c0, by simpa using blk_set hb 2 (.int .u64 x), hg, hr0⟩
theorem IsS68.new (w0 W : World) (A0 : Option Addr) (c0 : Nat) (f0 : List Int) (f1 : Int) (f2 : Int) (hB : Below w0.heap.size w0 W) (hr0 : Kd.C (Kd.int .u8) w0 A0 f0.length f0) : IsS68 w0 (W.alloc (.cells #[.slice A0 f0.length c0, .int .i64 f1, .int .u64 f2] 68)) W.heap.size f0 f1 f2 := ⟨A0, c0, by simpa using heap_alloc_new W _, hB.size, hr0⟩

/-! ### spec_l1Cur_next: function 105 -/
def spec_l1Cur_next.f (s0_0 : List Int) (s0_1 : Int) (s0_2 : Int) : Option (Int × Int × Int) := if s0_1 < (s0_0.length : Int) then (if 0 ≤ s0_1 then (if (wrap64 (s0_1 + 1)) ≤ (s0_0.length : Int) then (some (wrap64 (rd s0_0 s0_1), wrap64 (s0_1 + 1), IntKind.u64.wrap ((IntKind.u64.wrap ((IntKind.u64.wrap (s0_2 * 6364136223846793005)) + (IntKind.u64.wrap (wrap64 (rd s0_0 s0_1))))) + 1442695040888963407))) else (some (wrap64 (Go.bits .and .u64 ((IntKind.u64.wrap ((IntKind.u64.wrap ((IntKind.u64.wrap (s0_2 * 6364136223846793005)) + (IntKind.u64.wrap (wrap64 (rd s0_0 s0_1))))) + 1442695040888963407)) / 1099511627776) 255), wrap64 (s0_1 + 1), IntKind.u64.wrap ((IntKind.u64.wrap ((IntKind.u64.wrap (s0_2 * 6364136223846793005)) + (IntKind.u64.wrap (wrap64 (rd s0_0 s0_1))))) + 1442695040888963407)))) else (none)) else (if (wrap64 (s0_1 + 1)) ≤ (s0_0.length : Int) then (some (0, wrap64 (s0_1 + 1), IntKind.u64.wrap ((IntKind.u64.wrap ((IntKind.u64.wrap (s0_2 * 6364136223846793005)))) + 1442695040888963407))) else (some (wrap64 (Go.bits .and .u64 ((IntKind.u64.wrap ((IntKind.u64.wrap ((IntKind.u64.wrap (s0_2 * 6364136223846793005)))) + 1442695040888963407)) / 1099511627776) 255), wrap64 (s0_1 + 1), IntKind.u64.wrap ((IntKind.u64.wrap ((IntKind.u64.wrap (s0_2 * 6364136223846793005)))) + 1442695040888963407))))
theorem spec_l1Cur_next.calls (g : Nat) (s0_0 : List Int) (s0_1 : Int) (s0_2 : Int) (r1 : Int) (r2 : Int) (r3 : Int) (w0 w : World) (hI : IsS68 w0 w g s0_0 s0_1 s0_2) (hB : Below w0.heap.size w0 w) (h : spec_l1Cur_next.f s0_0 s0_1 s0_2 = some (r1, r2, r3)) :
 Calls Tryz.prog 105 #[.pointer (some ⟨g, 0, none⟩)] w fun e w' => e = .returned (.int .i64 r1) ∧ IsS68 w0 w' g s0_0 r2 r3 ∧ Below w0.heap.size w0 w' ∧ KeepBut w w' g none := by
 have HI0 := Aside0.mk hI
 have HK := Aside0.mk (KeepBut.refl w g none)
 have HL := Aside0.mk hB.size
 clear hI
 have HW0 := Aside0.mk hB.size
 have HB := Aside0.mk hB
 clear hB
 unfold spec_l1Cur_next.f at h
 have H := h
 clear h
 by_cases c2 : s0_1 < (s0_0.length : Int)
 · rw [if_pos c2] at H
   have c2b0 := decide_eq_true c2
   clear c2
   replace H := gd_ H; obtain ⟨c3, H⟩ := H
   have c3b0 : decide (0 ≤ s0_1) = true := decide_eq_true c3
   clear c3
   by_cases c4 : (wrap64 (s0_1 + 1)) ≤ (s0_0.length : Int)
   · rw [if_pos c4] at H
     have c4b0 := decide_eq_true c4
     clear c4
     simp only [Option.some.injEq, Prod.mk.injEq] at H
     obtain ⟨rfl, rfl, rfl⟩ := H
     obtain ⟨ASz5_0, cSz5_0, HGz5, hgz5, HSz5_0⟩ := HI0.out
     have hcz5_0 := cellS68_0 HGz5
     have hcz5_1 := cellS68_1 HGz5
     have hcz5_2 := cellS68_2 HGz5
     have hfz5_1 := blk_frozen HGz5 1
     have hfz5_2 := blk_frozen HGz5 2
     clear HGz5 hgz5
     have p133 : 0 ≤ (s0_1 : Int) := of_decide_eq_true zS_
     have q133 : s0_1 < (s0_0.length : Int) := of_decide_eq_true zS_
     obtain ⟨ad133, e133, hx133_0⟩ := Kd.at_int HSz5_0 s0_1 p133 q133
     cases e133
     replace hx133_0 := pw_cell_below HB.out hx133_0
     replace p133 := eq_true p133
     replace q133 := eq_true q133
     go_enter Tryz.func105, Tryz.ntmps105
     go_wp2
     repeat (go_quiet (fail); try go_wp2)
     go_ret
     exact ⟨zR_, zs6_14, zs6_15, zs6_16⟩
   rw [if_neg c4] at H
   have c4b0 := decide_eq_false c4
   clear c4
   simp only [Option.some.injEq, Prod.mk.injEq] at H
   obtain ⟨rfl, rfl, rfl⟩ := H
   obtain ⟨ASz6_0, cSz6_0, HGz6, hgz6, HSz6_0⟩ := HI0.out
   have hcz6_0 := cellS68_0 HGz6
   have hcz6_1 := cellS68_1 HGz6
   have hcz6_2 := cellS68_2 HGz6
   have hfz6_1 := blk_frozen HGz6 1
   have hfz6_2 := blk_frozen HGz6 2
   clear HGz6 hgz6
   have p133 : 0 ≤ (s0_1 : Int) := of_decide_eq_true zS_
   have q133 : s0_1 < (s0_0.length : Int) := of_decide_eq_true zS_
   obtain ⟨ad133, e133, hx133_0⟩ := Kd.at_int HSz6_0 s0_1 p133 q133
   cases e133
   replace hx133_0 := pw_cell_below HB.out hx133_0
   replace p133 := eq_true p133
   replace q133 := eq_true q133
   go_enter Tryz.func105, Tryz.ntmps105
   go_wp2
   repeat (go_quiet (fail); try go_wp2)
   go_ret
   exact ⟨zR_, zs6_14, zs6_15, zs6_16⟩
 rw [if_neg c2] at H
 have c2b0 := decide_eq_false c2
 clear c2
 by_cases c7 : (wrap64 (s0_1 + 1)) ≤ (s0_0.length : Int)
 · rw [if_pos c7] at H
   have c7b0 := decide_eq_true c7
   clear c7
   simp only [Option.some.injEq, Prod.mk.injEq] at H
   obtain ⟨rfl, rfl, rfl⟩ := H
   obtain ⟨ASz8_0, cSz8_0, HGz8, hgz8, HSz8_0⟩ := HI0.out
   have hcz8_0 := cellS68_0 HGz8
   have hcz8_1 := cellS68_1 HGz8
   have hcz8_2 := cellS68_2 HGz8
   have hfz8_1 := blk_frozen HGz8 1
   have hfz8_2 := blk_frozen HGz8 2
   clear HGz8 hgz8
   go_enter Tryz.func105, Tryz.ntmps105
   go_wp2
   repeat (go_quiet (fail); try go_wp2)
   go_ret
   exact ⟨zR_, zs6_14, zs6_15, zs6_16⟩
 rw [if_neg c7] at H
 have c7b0 := decide_eq_false c7
 clear c7
 simp only [Option.some.injEq, Prod.mk.injEq] at H
 obtain ⟨rfl, rfl, rfl⟩ := H
 obtain ⟨ASz9_0, cSz9_0, HGz9, hgz9, HSz9_0⟩ := HI0.out
 have hcz9_0 := cellS68_0 HGz9
 have hcz9_1 := cellS68_1 HGz9
 have hcz9_2 := cellS68_2 HGz9
 have hfz9_1 := blk_frozen HGz9 1
 have hfz9_2 := blk_frozen HGz9 2
 clear HGz9 hgz9
 go_enter Tryz.func105, Tryz.ntmps105
 go_wp2
 repeat (go_quiet (fail); try go_wp2)
 go_ret
 exact ⟨zR_, zs6_14, zs6_15, zs6_16⟩

/-! ### spec_l1Cur_pick: function 76 -/
def spec_l1Cur_pick.f (s0_0 : List Int) (s0_1 : Int) (s0_2 : Int) (a1 : Int) : Option (Int × Int × Int) := if a1 ≤ 1 then (some (0, s0_1, s0_2)) else ((spec_l1Cur_next.f s0_0 s0_1 s0_2).bind fun bt134 => (if a1 > 200 then ((spec_l1Cur_next.f s0_0 bt134.2.1 bt134.2.2).bind fun bt137 => (if a1 = 0 then (none) else (some (Int.tmod (wrap64 ((wrap64 (bt134.1 * 256)) + bt137.1)) a1, bt137.2.1, bt137.2.2)))) else (if a1 = 0 then (none) else (some (Int.tmod bt134.1 a1, bt134.2.1, bt134.2.2)))))
theorem spec_l1Cur_pick.calls (g : Nat) (s0_0 : List Int) (s0_1 : Int) (s0_2 : Int) (a1 : Int) (r1 : Int) (r2 : Int) (r3 : Int) (w0 w : World) (hI : IsS68 w0 w g s0_0 s0_1 s0_2) (hB : Below w0.heap.size w0 w) (h : spec_l1Cur_pick.f s0_0 s0_1 s0_2 a1 = some (r1, r2, r3)) :
 Calls Tryz.prog 76 #[.pointer (some ⟨g, 0, none⟩), .int .i64 a1] w fun e w' => e = .returned (.int .i64 r1) ∧ IsS68 w0 w' g s0_0 r2 r3 ∧ Below w0.heap.size w0 w' ∧ KeepBut w w' g none := by
 have HI0 := Aside0.mk hI
 have HK := Aside0.mk (KeepBut.refl w g none)
 have HL := Aside0.mk hB.size
 clear hI
 have HW0 := Aside0.mk hB.size
 have HB := Aside0.mk hB
 clear hB
 unfold spec_l1Cur_pick.f at h
 have H := h
 clear h
 by_cases c3 : a1 ≤ 1
 · rw [if_pos c3] at H
   have c3b0 := decide_eq_true c3
   clear c3
   simp only [Option.some.injEq, Prod.mk.injEq] at H
   obtain ⟨rfl, rfl, rfl⟩ := H
   go_enter Tryz.func76, Tryz.ntmps76
   go_wp2
   go_ret
   exact ⟨zR_, zs6_14, zs6_15, zs6_16⟩
 rw [if_neg c3] at H
 have c3b0 := decide_eq_false c3
 clear c3
 replace H := bd_ H; obtain ⟨⟨t134, t135, t136⟩, A4, H⟩ := H
 dsimp only at H
 by_cases c5 : a1 > 200
 · rw [if_pos c5] at H
   have c5b0 : decide (200 < a1) = true := decide_eq_true c5
   clear c5
   replace H := bd_ H; obtain ⟨⟨t137, t138, t139⟩, A6, H⟩ := H
   dsimp only at H
   replace H := nz_ H; obtain ⟨c7, H⟩ := H
   have c7b0 : (a1 == 0) = false := beq_eq_false_iff_ne.mpr c7
   have c7b1 : (a1 != 0) = true := bne_iff_ne.mpr c7
   simp only [Option.some.injEq, Prod.mk.injEq] at H
   obtain ⟨rfl, rfl, rfl⟩ := H
   go_enter Tryz.func76, Tryz.ntmps76
   go_wp2_with (first | ((with_reducible refine gc_ 105 rfl ?_); refine gL_ 9 Tryz.func105 #[.pointer (some ⟨g, 0, none⟩)] ?_; (with_reducible refine (spec_l1Cur_next.calls g s0_0 s0_1 s0_2 t134 t135 t136 w0 _ ?side1 ?side2 A4.out).mono ?_); (case side1 => exact zc6_9_); (case side2 => exact zc6_8_); rintro e w8 ⟨rfl, hi, hb, hk⟩; refine ⟨_, rfl, ?_⟩; replace HK := Aside0.mk (KeepBut.trans z4_2_ hk (.inl rfl)); replace HB := Aside0.mk (hb); replace HI0 := Aside0.mk (hi)) | ((with_reducible refine gc_ 105 rfl ?_); refine gL_ 15 Tryz.func105 #[.pointer (some ⟨g, 0, none⟩)] ?_; (with_reducible refine (spec_l1Cur_next.calls g s0_0 t135 t136 t137 t138 t139 w0 _ ?side1 ?side2 A6.out).mono ?_); (case side1 => exact zc6_9_); (case side2 => exact zc6_8_); rintro e w9 ⟨rfl, hi, hb, hk⟩; refine ⟨_, rfl, ?_⟩; replace HK := Aside0.mk (KeepBut.trans z4_2_ hk (.inl rfl)); replace HB := Aside0.mk (hb); replace HI0 := Aside0.mk (hi)))
   go_ret
   exact ⟨zR_, zs6_14, zs6_15, zs6_16⟩
 rw [if_neg c5] at H
 have c5b0 : decide (200 < a1) = false := decide_eq_false c5
 clear c5
 replace H := nz_ H; obtain ⟨c10, H⟩ := H
 have c10b0 : (a1 == 0) = false := beq_eq_false_iff_ne.mpr c10
 have c10b1 : (a1 != 0) = true := bne_iff_ne.mpr c10
 simp only [Option.some.injEq, Prod.mk.injEq] at H
 obtain ⟨rfl, rfl, rfl⟩ := H
 go_enter Tryz.func76, Tryz.ntmps76
 go_wp2_with (first | ((with_reducible refine gc_ 105 rfl ?_); refine gL_ 9 Tryz.func105 #[.pointer (some ⟨g, 0, none⟩)] ?_; (with_reducible refine (spec_l1Cur_next.calls g s0_0 s0_1 s0_2 t134 t135 t136 w0 _ ?side1 ?side2 A4.out).mono ?_); (case side1 => exact zc6_9_); (case side2 => exact zc6_8_); rintro e w11 ⟨rfl, hi, hb, hk⟩; refine ⟨_, rfl, ?_⟩; replace HK := Aside0.mk (KeepBut.trans z4_2_ hk (.inl rfl)); replace HB := Aside0.mk (hb); replace HI0 := Aside0.mk (hi)))
 go_ret
 exact ⟨zR_, zs6_14, zs6_15, zs6_16⟩

/-! ### spec_l1Cur_hidden: function 75 -/
def spec_l1Cur_hidden.l0 : Nat → ByteArray → List Int → Int → Int → Option (ByteArray × Int × Int)
 | 0, _, _, _, _ => none
 | k + 1, x3, x1000, x1001, x1002 => if (x3.size : Int) < 4 then ((spec_l1Cur_pick.f x1000 x1001 x1002 6).bind fun bt140 => ((spec_l1Num.f k bt140.1).bind fun t143 => (if x3.size + t143.size ≤ 9223372036854775807 then (spec_l1Cur_hidden.l0 k (x3 ++ t143) x1000 bt140.2.1 bt140.2.2) else (none)))) else (some (x3, x1001, x1002))
def spec_l1Cur_hidden.f (k : Nat) (s0_0 : List Int) (s0_1 : Int) (s0_2 : Int) : Option (ByteArray × Int × Int) := spec_l1Cur_hidden.l0 k (⟨#[]⟩ : ByteArray) s0_0 s0_1 s0_2
theorem spec_l1Cur_hidden.mono_l : ∀ k, (∀ y0 y1 y2 y3, LeO (spec_l1Cur_hidden.l0 k y0 y1 y2 y3) (spec_l1Cur_hidden.l0 (k + 1) y0 y1 y2 y3))
 | 0 => fun _ _ _ _ r h => by simp [spec_l1Cur_hidden.l0] at h
 | k + 1 => by
  have ih0 := spec_l1Cur_hidden.mono_l k
  intro y0 y1 y2 y3
  unfold spec_l1Cur_hidden.l0
  have m1_ := @ih0
  have m2_ := @spec_l1Num.mono
  exact zM_
theorem spec_l1Cur_hidden.mono : ∀ a0 a1 a2 k, LeO (spec_l1Cur_hidden.f k a0 a1 a2) (spec_l1Cur_hidden.f (k + 1) a0 a1 a2) := by
 intro a0 a1 a2 k
 have ih0 := spec_l1Cur_hidden.mono_l k
 unfold spec_l1Cur_hidden.f
 have m1_ := @ih0
 have m2_ := @spec_l1Num.mono
 exact zM_
theorem spec_l1Cur_hidden.calls (k : Nat) (g : Nat) (s0_0 : List Int) (s0_1 : Int) (s0_2 : Int) (r1 : ByteArray) (r2 : Int) (r3 : Int) (w0 w : World) (hI : IsS68 w0 w g s0_0 s0_1 s0_2) (hB : Below w0.heap.size w0 w) (h : spec_l1Cur_hidden.f k s0_0 s0_1 s0_2 = some (r1, r2, r3)) :
 Calls Tryz.prog 75 #[.pointer (some ⟨g, 0, none⟩)] w fun e w' => e = .returned (.string r1) ∧ IsS68 w0 w' g s0_0 r2 r3 ∧ Below w0.heap.size w0 w' ∧ KeepBut w w' g none := by
 have HI0 := Aside0.mk hI
 have HK := Aside0.mk (KeepBut.refl w g none)
 have HL := Aside0.mk hB.size
 clear hI
 have HW0 := Aside0.mk hB.size
 have HB := Aside0.mk hB
 clear hB
 unfold spec_l1Cur_hidden.f at h
 have H := h
 clear h
 have H' := Aside0.mk H
 clear H
 go_enter Tryz.func75, Tryz.ntmps75
 go_wp2
 go_loopg [3] k (fun kq v3 w' => ∃ (x3_1 : ByteArray) (x1001_1 : Int) (x1002_1 : Int), v3 = .string x3_1 ∧ Aside0 (spec_l1Cur_hidden.l0 kq x3_1 s0_0 x1001_1 x1002_1 = some (r1, r2, r3)) ∧ Aside0 (kq ≤ k) ∧ Aside0 (IsS68 w0 w' g s0_0 x1001_1 x1002_1) ∧ Aside0 (KeepBut w w' g none) ∧ Aside0 (Below w0.heap.size w0 w'))
 case atStart => exact ⟨((⟨#[]⟩ : ByteArray)), (s0_1), (s0_2), zV_, H', ⟨Nat.le_refl _⟩, ⟨zs6_14⟩, ⟨zs6_16⟩, ⟨zs6_15⟩⟩
 case round =>
  clear H'
  obtain ⟨x3_1, x1001_1, x1002_1, rfl, HA, HK1, HI0, HK, HB⟩ := hrel
  cases gk with
  | zero => exact absurd HA.out (by simp [spec_l1Cur_hidden.l0])
  | succ k1 =>
   have H := HA.out
   clear HA
   simp only [spec_l1Cur_hidden.l0] at H
   by_cases c2 : (x3_1.size : Int) < 4
   · rw [if_pos c2] at H
     have c2b0 := decide_eq_true c2
     have c2b1 : decide (x3_1.size < 4) = true := decide_eq_true (by omega)
     clear c2
     replace H := bd_ H; obtain ⟨⟨t140, t141, t142⟩, A3, H⟩ := H
     dsimp only at H
     replace H := bd_ H; obtain ⟨t143, A4, H⟩ := H
     replace H := gd_ H; obtain ⟨c5, H⟩ := H
     have c5b0 := eq_true c5
     have c5b1 : decide (x3_1.size + t143.size ≤ 9223372036854775807) = true := decide_eq_true c5
     try have c5b2 : (9223372036854775807 < x3_1.size + t143.size) = False := eq_false (Nat.not_lt.2 c5)
     have H' := Aside0.mk H
     clear H
     go_wp2_with (first | ((with_reducible refine gc_ 76 rfl ?_); refine gL_ 9 Tryz.func76 #[.pointer (some ⟨g, 0, none⟩), .int .i64 6] ?_; (with_reducible refine (spec_l1Cur_pick.calls g s0_0 x1001_1 x1002_1 6 t140 t141 t142 w0 _ ?side1 ?side2 A3.out).mono ?_); (case side1 => exact zc6_9_); (case side2 => exact zc6_8_); rintro e w6 ⟨rfl, hi, hb, hk⟩; refine ⟨_, rfl, ?_⟩; replace HK := Aside0.mk (KeepBut.trans z4_2_ hk (.inl rfl)); replace HB := Aside0.mk (hb); replace HI0 := Aside0.mk (hi)) | ((with_reducible refine gc_ 67 rfl ?_); refine gL_ 10 Tryz.func67 #[.int .i64 t140] ?_; (with_reducible refine (spec_l1Num.calls k1 t140 t143 _ A4.out).mono ?_); rintro e w7 ⟨rfl, hb⟩; refine ⟨_, rfl, ?_⟩; replace HK := Aside0.mk (KeepBut.trans z4_2_ (KeepBut.of_below hb g none) (.inl rfl)); replace HB := Aside0.mk (below_step (by repeat (first | (with_reducible first | exact HB.out | apply below_alloc | apply pw_below_drewN | apply below_drew1 | refine below_set ?_ (IsS68.ge HI0.out)) | exact HB.out)) hb); replace HI0 := Aside0.mk (IsS68.below zq6_0_ hb)))
     go_roundg k1
     case measure => have := HK1.out; omega
     case rel => exact ⟨(x3_1 ++ t143), (t141), (t142), zV_, H', ⟨zs6_3⟩, ⟨zs6_14⟩, ⟨zs6_16⟩, ⟨zs6_15⟩⟩
   rw [if_neg c2] at H
   have c2b0 := decide_eq_false c2
   have c2b1 : decide (x3_1.size < 4) = false := decide_eq_false (by omega)
   clear c2
   simp only [Option.some.injEq, Prod.mk.injEq] at H
   obtain ⟨rfl, rfl, rfl⟩ := H
   go_wp2
   go_ret
   exact ⟨zR_, zs6_14, zs6_15, zs6_16⟩

/-! ### spec_l1Cur_surePuzzle: function 55 -/
def spec_l1Cur_surePuzzle.f (k : Nat) (s0_0 : List Int) (s0_1 : Int) (s0_2 : Int) (a1 : Int) : Option ((List (S46)) × Int × Int) := (spec_l1Cur_hidden.f k s0_0 s0_1 s0_2).bind fun bt145 => ((spec_l1Cur_pick.f s0_0 bt145.2.1 bt145.2.2 (wrap64 (a1 + 1))).bind fun bt148 => ((spec_l1Cur_pick.f s0_0 bt148.2.1 bt148.2.2 10000).bind fun bt151 => ((spec_MakePuzzle.f k bt145.1 bt148.1 bt151.1).bind fun bt154 => (some (bt154.1, bt151.2.1, bt151.2.2)))))
theorem spec_l1Cur_surePuzzle.mono : ∀ a0 a1 a2 a3 k, LeO (spec_l1Cur_surePuzzle.f k a0 a1 a2 a3) (spec_l1Cur_surePuzzle.f (k + 1) a0 a1 a2 a3) := by
 intro a0 a1 a2 a3 k
 unfold spec_l1Cur_surePuzzle.f
 have m1_ := @spec_MakePuzzle.mono
 have m2_ := @spec_l1Cur_hidden.mono
 exact zM_
theorem spec_l1Cur_surePuzzle.calls (k : Nat) (g : Nat) (s0_0 : List Int) (s0_1 : Int) (s0_2 : Int) (a1 : Int) (r1 : List (S46)) (r2 : Int) (r3 : Int) (w0 w : World) (hI : IsS68 w0 w g s0_0 s0_1 s0_2) (hB : Below w0.heap.size w0 w) (h : spec_l1Cur_surePuzzle.f k s0_0 s0_1 s0_2 a1 = some (r1, r2, r3)) :
 Calls Tryz.prog 55 #[.pointer (some ⟨g, 0, none⟩), .int .i64 a1] w fun e w' => ∃ v0_ : Value, e = .returned (.agg #[v0_]) ∧ Kd.R k46 46 w' w.heap.size (fun _ => True) v0_ r1 ∧ IsS68 w0 w' g s0_0 r2 r3 ∧ Below w0.heap.size w0 w' ∧ KeepBut w w' g none := by
 have hu26 := Tryz.underlying26
 have HI0 := Aside0.mk hI
 have HK := Aside0.mk (KeepBut.refl w g none)
 have HL := Aside0.mk hB.size
 clear hI
 have HW0 := Aside0.mk hB.size
 have HB := Aside0.mk hB
 clear hB
 unfold spec_l1Cur_surePuzzle.f at h
 have H := h
 clear h
 replace H := bd_ H; obtain ⟨⟨t145, t146, t147⟩, A3, H⟩ := H
 dsimp only at H
 replace H := bd_ H; obtain ⟨⟨t148, t149, t150⟩, A4, H⟩ := H
 dsimp only at H
 replace H := bd_ H; obtain ⟨⟨t151, t152, t153⟩, A5, H⟩ := H
 dsimp only at H
 replace H := bd_ H; obtain ⟨⟨t154, t157⟩, A6, H⟩ := H
 dsimp only at H
 simp only [Option.some.injEq, Prod.mk.injEq] at H
 obtain ⟨rfl, rfl, rfl⟩ := H
 go_enter Tryz.func55, Tryz.ntmps55
 go_wp2_with (first | (refine bx_ 4 #[.slice none 0 0] 26 ?_; intro gb144 hg w7 hbox hb; replace HB := Aside0.mk (below_step (by repeat (first | (with_reducible first | exact HB.out | apply below_alloc | apply pw_below_drewN | apply below_drew1 | refine below_set ?_ (IsS68.ge HI0.out)) | exact HB.out)) hb); have BK144 := Aside0.mk (hbox); have GW144 := Aside0.mk ((by rw [hg]; exact (keep_size (w := w) (g := g) (row := none) z4_2_) : w.heap.size ≤ gb144)); have GE144 := Aside0.mk ((Nat.le_trans HW0.out (by rw [hg]; exact (keep_size (w := w) (g := g) (row := none) z4_2_) : w.heap.size ≤ gb144) : w0.heap.size ≤ gb144)); replace HK := Aside0.mk (KeepBut.trans z4_2_ (KeepBut.of_below hb g none) (.inl rfl)); have NB0_144 := Aside0.mk ((by rw [hg]; exact Nat.ne_of_lt (IsS68.lt (show IsS68 w0 _ g s0_0 s0_1 s0_2 from by repeat (first | (with_reducible first | exact HI0.out | apply IsS68.alloc | apply IsS68.drewN | apply IsS68.drew | apply IsS68.set_1 | apply IsS68.set_2) | exact HI0.out))) : g ≠ gb144)); have NB144_0 := Aside0.mk ((by rw [hg]; exact Nat.ne_of_gt (IsS68.lt (show IsS68 w0 _ g s0_0 s0_1 s0_2 from by repeat (first | (with_reducible first | exact HI0.out | apply IsS68.alloc | apply IsS68.drewN | apply IsS68.drew | apply IsS68.set_1 | apply IsS68.set_2) | exact HI0.out))) : gb144 ≠ g)); replace HI0 := Aside0.mk (IsS68.below zq6_0_ hb); clear hb hbox hg) | ((with_reducible refine gc_ 75 rfl ?_); refine gL_ 9 Tryz.func75 #[.pointer (some ⟨g, 0, none⟩)] ?_; (with_reducible refine (spec_l1Cur_hidden.calls k g s0_0 s0_1 s0_2 t145 t146 t147 w0 _ ?side1 ?side2 A3.out).mono ?_); (case side1 => exact zc6_4_); (case side2 => exact zc6_6_); rintro e w8 ⟨rfl, hi, hb, hk⟩; refine ⟨_, rfl, ?_⟩; replace BK144 := Aside0.mk (KeepBut.blk hk (g' := gb144) (o := .cells #[.slice none 0 0] 26 (0, 0)) z4_3_ NB144_0.out (by simp)); replace HK := Aside0.mk (KeepBut.trans z4_0_ hk (.inl rfl)); replace HB := Aside0.mk (hb); replace HI0 := Aside0.mk (hi)) | ((with_reducible refine gc_ 76 rfl ?_); refine gL_ 13 Tryz.func76 #[.pointer (some ⟨g, 0, none⟩), .int .i64 (wrap64 (a1 + 1))] ?_; (with_reducible refine (spec_l1Cur_pick.calls g s0_0 t146 t147 (wrap64 (a1 + 1)) t148 t149 t150 w0 _ ?side1 ?side2 A4.out).mono ?_); (case side1 => exact zc6_4_); (case side2 => exact zc6_6_); rintro e w9 ⟨rfl, hi, hb, hk⟩; refine ⟨_, rfl, ?_⟩; replace BK144 := Aside0.mk (KeepBut.blk hk (g' := gb144) (o := .cells #[.slice none 0 0] 26 (0, 0)) z4_3_ NB144_0.out (by simp)); replace HK := Aside0.mk (KeepBut.trans z4_0_ hk (.inl rfl)); replace HB := Aside0.mk (hb); replace HI0 := Aside0.mk (hi)) | ((with_reducible refine gc_ 76 rfl ?_); refine gL_ 15 Tryz.func76 #[.pointer (some ⟨g, 0, none⟩), .int .i64 10000] ?_; (with_reducible refine (spec_l1Cur_pick.calls g s0_0 t149 t150 10000 t151 t152 t153 w0 _ ?side1 ?side2 A5.out).mono ?_); (case side1 => exact zc6_4_); (case side2 => exact zc6_6_); rintro e w10 ⟨rfl, hi, hb, hk⟩; refine ⟨_, rfl, ?_⟩; replace BK144 := Aside0.mk (KeepBut.blk hk (g' := gb144) (o := .cells #[.slice none 0 0] 26 (0, 0)) z4_3_ NB144_0.out (by simp)); replace HK := Aside0.mk (KeepBut.trans z4_0_ hk (.inl rfl)); replace HB := Aside0.mk (hb); replace HI0 := Aside0.mk (hi)) | ((with_reducible refine gc_ 74 rfl ?_); refine gL_ 16 Tryz.func74 #[.string t145, .int .i64 t148, .int .i64 t151] ?_; (with_reducible refine (spec_MakePuzzle.calls k t145 t148 t151 t154 t157 _ A6.out).mono ?_); rintro e w11 ⟨v155, rfl, ho0, hb⟩; refine ⟨_, rfl, ?_⟩; have HO156 := Aside0.mk (Kd.R_lower ho0 (keep_size (w := w) (g := g) (row := none) z4_0_)); replace BK144 := bb_ BK144 z4_3_ hb; replace HK := Aside0.mk (KeepBut.trans z4_0_ (KeepBut.of_below hb g none) (.inl rfl)); replace HB := Aside0.mk (below_step (by repeat (first | (with_reducible first | exact HB.out | apply below_alloc | apply pw_below_drewN | apply below_drew1 | refine below_set ?_ (IsS68.ge HI0.out) | refine below_set ?_ GE144.out) | exact HB.out)) hb); replace HI0 := Aside0.mk (IsS68.below z4_4_ hb)) | (refine bx_ 5 #[.slice none 0 0] 26 ?_; intro gb158 hg w12 hbox hb; replace HO156 := Aside0.mk (Kd.R_below (rr_ HO156.out) hb); replace HB := Aside0.mk (below_step (by repeat (first | (with_reducible first | exact HB.out | apply below_alloc | apply pw_below_drewN | apply below_drew1 | refine below_set ?_ (IsS68.ge HI0.out) | refine below_set ?_ GE144.out) | exact HB.out)) hb); have BK158 := Aside0.mk (hbox); have GW158 := Aside0.mk ((by rw [hg]; exact (keep_size (w := w) (g := g) (row := none) z4_0_) : w.heap.size ≤ gb158)); have GE158 := Aside0.mk ((Nat.le_trans HW0.out (by rw [hg]; exact (keep_size (w := w) (g := g) (row := none) z4_0_) : w.heap.size ≤ gb158) : w0.heap.size ≤ gb158)); replace HK := Aside0.mk (KeepBut.trans z4_0_ (KeepBut.of_below hb g none) (.inl rfl)); have NB144_158 := nl_ BK144 z4_3_ hg; have NB158_144 := ns_ NB144_158; replace BK144 := bb_ BK144 z4_3_ hb; have NB0_158 := Aside0.mk ((by rw [hg]; exact Nat.ne_of_lt (IsS68.lt (show IsS68 w0 _ g s0_0 t152 t153 from by repeat (first | (with_reducible first | exact HI0.out | apply IsS68.alloc | apply IsS68.drewN | apply IsS68.drew | apply IsS68.set_1 | apply IsS68.set_2 | refine IsS68.far ?_ NB0_144.out _) | exact HI0.out))) : g ≠ gb158)); have NB158_0 := Aside0.mk ((by rw [hg]; exact Nat.ne_of_gt (IsS68.lt (show IsS68 w0 _ g s0_0 t152 t153 from by repeat (first | (with_reducible first | exact HI0.out | apply IsS68.alloc | apply IsS68.drewN | apply IsS68.drew | apply IsS68.set_1 | apply IsS68.set_2 | refine IsS68.far ?_ NB0_144.out _) | exact HI0.out))) : gb158 ≠ g)); replace HI0 := Aside0.mk (IsS68.below z4_4_ hb); clear hb hbox hg; obtain ⟨Ao13, co13, eo13⟩ := Kd.R_slice HO156.out; subst eo13; have hnb14 := NB158_144.out; have hnc14 := NB144_158.out; have hnb15 := NB158_0.out; have hnc15 := NB0_158.out; have hcz16_0 : w12.cell? ⟨gb158, 0, none⟩ = some (.slice none 0 0) := (blk_cell BK158.out 0).trans rfl; have hfz16_0 := blk_frozen BK158.out 0; have hnb17 := NB144_0.out; have hnc17 := NB0_144.out; have hcz18_0 : w12.cell? ⟨gb144, 0, none⟩ = some (.slice none 0 0) := (blk_cell BK144.out 0).trans rfl; have hfz18_0 := blk_frozen BK144.out 0))
 refine bodyPost_ret (results_cell_row rfl _ _ gb144 26 #[.slice Ao13 t154.length co13] (0, 0) _ rfl (by refine b_ ?_; refine blk_put (cs := #[.slice none 0 0]) ?_ 0 _ rfl; refine b_ ?_; refine blk_far ?_ NB144_158.out _; exact b_ BK144.out) Tryz.underlying26 rfl (by kernel_rfl)) rfl ?_
 exact ⟨_, zs6_10, by refine rr_ ?_; exact Kd.R_mono (Kd.R_far (p := ⟨gb144, 0, none⟩) (Kd.R_far (p := ⟨gb158, 0, none⟩) (Kd.R_types (Kd.R_types HO156.out BK158.out (by decide)) BK144.out (by decide)) (fun _ hk => hk.1.2) (.slice Ao13 t154.length co13)) (fun _ hk => hk.2) (.slice Ao13 t154.length co13)) (fun _ hk => trivial), by repeat (first | (with_reducible first | exact HI0.out | apply IsS68.alloc | apply IsS68.drewN | apply IsS68.drew | apply IsS68.set_1 | apply IsS68.set_2 | refine IsS68.far ?_ NB0_144.out _ | refine IsS68.far ?_ NB0_158.out _) | exact HI0.out), by repeat (first | (with_reducible first | exact HB.out | apply below_alloc | apply pw_below_drewN | apply below_drew1 | refine below_set ?_ (IsS68.ge HI0.out) | refine below_set ?_ GE144.out | refine below_set ?_ GE158.out) | exact HB.out), by repeat (first | (with_reducible first | exact HK.out | apply KeepBut.set_ | apply keep_drewN | apply keep_drew | apply keep_alloc | refine keep_far ?_ GW144.out _ | refine keep_far ?_ GW158.out _) | exact HK.out)⟩

/-! ### spec_l1Cur_one: function 56 -/
def spec_l1Cur_one.f (s0_0 : List Int) (s0_1 : Int) (s0_2 : Int) (a1 : Int) : Option (Bool × Int × Int) := (spec_l1Cur_pick.f s0_0 s0_1 s0_2 a1).bind fun bt159 => (some ((bt159.1 == 0), bt159.2.1, bt159.2.2))
theorem spec_l1Cur_one.calls (g : Nat) (s0_0 : List Int) (s0_1 : Int) (s0_2 : Int) (a1 : Int) (r1 : Bool) (r2 : Int) (r3 : Int) (w0 w : World) (hI : IsS68 w0 w g s0_0 s0_1 s0_2) (hB : Below w0.heap.size w0 w) (h : spec_l1Cur_one.f s0_0 s0_1 s0_2 a1 = some (r1, r2, r3)) :
 Calls Tryz.prog 56 #[.pointer (some ⟨g, 0, none⟩), .int .i64 a1] w fun e w' => e = .returned (.bool r1) ∧ IsS68 w0 w' g s0_0 r2 r3 ∧ Below w0.heap.size w0 w' ∧ KeepBut w w' g none := by
 have HI0 := Aside0.mk hI
 have HK := Aside0.mk (KeepBut.refl w g none)
 have HL := Aside0.mk hB.size
 clear hI
 have HW0 := Aside0.mk hB.size
 have HB := Aside0.mk hB
 clear hB
 unfold spec_l1Cur_one.f at h
 have H := h
 clear h
 replace H := bd_ H; obtain ⟨⟨t159, t160, t161⟩, A3, H⟩ := H
 dsimp only at H
 simp only [Option.some.injEq, Prod.mk.injEq] at H
 obtain ⟨rfl, rfl, rfl⟩ := H
 go_enter Tryz.func56, Tryz.ntmps56
 go_wp2_with (first | ((with_reducible refine gc_ 76 rfl ?_); refine gL_ 7 Tryz.func76 #[.pointer (some ⟨g, 0, none⟩), .int .i64 a1] ?_; (with_reducible refine (spec_l1Cur_pick.calls g s0_0 s0_1 s0_2 a1 t159 t160 t161 w0 _ ?side1 ?side2 A3.out).mono ?_); (case side1 => exact zc6_9_); (case side2 => exact zc6_8_); rintro e w4 ⟨rfl, hi, hb, hk⟩; refine ⟨_, rfl, ?_⟩; replace HK := Aside0.mk (KeepBut.trans z4_2_ hk (.inl rfl)); replace HB := Aside0.mk (hb); replace HI0 := Aside0.mk (hi)))
 go_ret
 exact ⟨zR_, zs6_14, zs6_15, zs6_16⟩

theorem z5_0_ {p : Prop} (h : p := by exact b_ BK162.out) : p := h
theorem z5_1_ {p : Prop} (h : p := by (try simp only [List.map_toArray, List.map_cons, List.map_nil]); first | done | rfl | (simp only [List.length_drop, List.length_take]; rfl)) : p := h
theorem z5_2_ {p : Prop} (h : p := by repeat (first | (with_reducible first | exact HK.out | apply KeepBut.set_ | apply keep_drewN | apply keep_drew | apply keep_alloc | refine keep_far ?_ GW162.out _ | refine keep_far ?_ GW175.out _) | exact HK.out)) : p := h
theorem z5_3_ {p : Prop} (h : p := by repeat (first | (with_reducible first | exact HK.out | apply KeepBut.set_ | apply keep_drewN | apply keep_drew | apply keep_alloc | refine keep_far ?_ GW162.out _) | exact HK.out)) : p := h
theorem z5_4_ {p : Prop} (h : p := by exact b_ BK175.out) : p := h
theorem z5_5_ {p : Prop} (h : p := by repeat (first | (with_reducible first | exact HK.out | apply KeepBut.set_ | apply keep_drewN | apply keep_drew | apply keep_alloc) | exact HK.out)) : p := h

/-! ### spec_l1Cur_clue: function 79 -/
mutual
def spec_l1Cur_clue.j1 : Nat → List Int → Int → Int → Int → Int → Int → Option (Int × Int × Int × Int × Int)
 | 0, _, _, _, _, _, _ => none
 | k + 1, x1000, x1001, x1002, x176000, x176001, x176002 => if x176000 = 2 then (spec_l1Cur_clue.j2 k true x1000 x1001 x1002 x176000 x176001 x176002) else (spec_l1Cur_clue.j2 k (x176000 == 3) x1000 x1001 x1002 x176000 x176001 x176002)
def spec_l1Cur_clue.j2 : Nat → Bool → List Int → Int → Int → Int → Int → Int → Option (Int × Int × Int × Int × Int)
 | 0, _, _, _, _, _, _, _ => none
 | k + 1, x43, x1000, x1001, x1002, x176000, x176001, x176002 => if x43 = true then ((spec_l1Cur_pick.f x1000 x1001 x1002 3).bind fun bt185 => (spec_l1Cur_clue.j3 k x1000 bt185.2.1 bt185.2.2 x176000 x176001 bt185.1)) else (spec_l1Cur_clue.j3 k x1000 x1001 x1002 x176000 x176001 x176002)
def spec_l1Cur_clue.j3 : Nat → List Int → Int → Int → Int → Int → Int → Option (Int × Int × Int × Int × Int)
 | 0, _, _, _, _, _, _ => none
 | k + 1, x1000, x1001, x1002, x176000, x176001, x176002 => (spec_l1Cur_one.f x1000 x1001 x1002 14).bind fun bt188 => (if bt188.1 = true then ((spec_l1Cur_pick.f x1000 bt188.2.1 bt188.2.2 3).bind fun bt191 => (some (x176000, wrap64 (bt191.1 - 1), x176002, bt191.2.1, bt191.2.2))) else (some (x176000, x176001, x176002, bt188.2.1, bt188.2.2)))
def spec_l1Cur_clue.j0 : Nat → Int → Bool → List Int → Int → Int → Int → Int → Int → Option (Int × Int × Int × Int × Int)
 | 0, _, _, _, _, _, _, _, _ => none
 | k + 1, x18, x24, x1000, x1001, x1002, x176000, x176001, x176002 => if x24 = true then ((spec_l1Cur_pick.f x1000 x1001 x1002 5).bind fun bt179 => (spec_l1Cur_clue.j1 k x1000 bt179.2.1 bt179.2.2 x176000 bt179.1 x176002)) else (if x18 = 5 then ((spec_l1Cur_pick.f x1000 x1001 x1002 10).bind fun bt182 => (spec_l1Cur_clue.j1 k x1000 bt182.2.1 bt182.2.2 x176000 x176001 (wrap64 (1 + bt182.1)))) else (spec_l1Cur_clue.j1 k x1000 x1001 x1002 x176000 x176001 x176002))
end
def spec_l1Cur_clue.f (k : Nat) (s0_0 : List Int) (s0_1 : Int) (s0_2 : Int) : Option (Int × Int × Int × Int × Int) := (spec_l1Cur_pick.f s0_0 s0_1 s0_2 6).bind fun bt163 => ((spec_l1Cur_pick.f s0_0 bt163.2.1 bt163.2.2 9).bind fun bt166 => ((spec_l1Cur_pick.f s0_0 bt166.2.1 bt166.2.2 8).bind fun bt169 => ((spec_l1Cur_pick.f s0_0 bt169.2.1 bt169.2.2 9).bind fun bt172 => (if (wrap64 (bt163.1 + (wrap64 (Int.tdiv bt166.1 8)))) = 0 then ((spec_l1Cur_pick.f s0_0 bt172.2.1 bt172.2.2 3).bind fun bt176 => (spec_l1Cur_clue.j1 k s0_0 bt176.2.1 bt176.2.2 (wrap64 (bt163.1 + (wrap64 (Int.tdiv bt166.1 8)))) bt176.1 (wrap64 (bt169.1 - (wrap64 (Int.tdiv bt172.1 8)))))) else (if (wrap64 (bt163.1 + (wrap64 (Int.tdiv bt166.1 8)))) = 1 then (spec_l1Cur_clue.j0 k (wrap64 (bt163.1 + (wrap64 (Int.tdiv bt166.1 8)))) ((wrap64 (bt163.1 + (wrap64 (Int.tdiv bt166.1 8)))) == 1) s0_0 bt172.2.1 bt172.2.2 (wrap64 (bt163.1 + (wrap64 (Int.tdiv bt166.1 8)))) 0 (wrap64 (bt169.1 - (wrap64 (Int.tdiv bt172.1 8))))) else (spec_l1Cur_clue.j0 k (wrap64 (bt163.1 + (wrap64 (Int.tdiv bt166.1 8)))) ((wrap64 (bt163.1 + (wrap64 (Int.tdiv bt166.1 8)))) == 3) s0_0 bt172.2.1 bt172.2.2 (wrap64 (bt163.1 + (wrap64 (Int.tdiv bt166.1 8)))) 0 (wrap64 (bt169.1 - (wrap64 (Int.tdiv bt172.1 8))))))))))
theorem spec_l1Cur_clue.mono_l : ∀ k, (∀ y0 y1 y2 y3 y4 y5, LeO (spec_l1Cur_clue.j1 k y0 y1 y2 y3 y4 y5) (spec_l1Cur_clue.j1 (k + 1) y0 y1 y2 y3 y4 y5)) ∧ (∀ y0 y1 y2 y3 y4 y5 y6, LeO (spec_l1Cur_clue.j2 k y0 y1 y2 y3 y4 y5 y6) (spec_l1Cur_clue.j2 (k + 1) y0 y1 y2 y3 y4 y5 y6)) ∧ (∀ y0 y1 y2 y3 y4 y5, LeO (spec_l1Cur_clue.j3 k y0 y1 y2 y3 y4 y5) (spec_l1Cur_clue.j3 (k + 1) y0 y1 y2 y3 y4 y5)) ∧ (∀ y0 y1 y2 y3 y4 y5 y6 y7, LeO (spec_l1Cur_clue.j0 k y0 y1 y2 y3 y4 y5 y6 y7) (spec_l1Cur_clue.j0 (k + 1) y0 y1 y2 y3 y4 y5 y6 y7))
 | 0 => ⟨fun _ _ _ _ _ _ r h => by simp [spec_l1Cur_clue.j1] at h, fun _ _ _ _ _ _ _ r h => by simp [spec_l1Cur_clue.j2] at h, fun _ _ _ _ _ _ r h => by simp [spec_l1Cur_clue.j3] at h, fun _ _ _ _ _ _ _ _ r h => by simp [spec_l1Cur_clue.j0] at h⟩
 | k + 1 => by
  obtain ⟨ih0, ih1, ih2, ih3⟩ := spec_l1Cur_clue.mono_l k
  refine ⟨?_, ?_, ?_, ?_⟩
  · intro y0 y1 y2 y3 y4 y5
    unfold spec_l1Cur_clue.j1
    have m1_ := @ih0
    have m2_ := @ih1
    have m3_ := @ih2
    have m4_ := @ih3
    exact zM_
  · intro y0 y1 y2 y3 y4 y5 y6
    unfold spec_l1Cur_clue.j2
    have m1_ := @ih0
    have m2_ := @ih1
    have m3_ := @ih2
    have m4_ := @ih3
    exact zM_
  · intro y0 y1 y2 y3 y4 y5
    unfold spec_l1Cur_clue.j3
    have m1_ := @ih0
    have m2_ := @ih1
    have m3_ := @ih2
    have m4_ := @ih3
    exact zM_
  intro y0 y1 y2 y3 y4 y5 y6 y7
  unfold spec_l1Cur_clue.j0
  have m1_ := @ih0
  have m2_ := @ih1
  have m3_ := @ih2
  have m4_ := @ih3
  exact zM_
theorem spec_l1Cur_clue.mono : ∀ a0 a1 a2 k, LeO (spec_l1Cur_clue.f k a0 a1 a2) (spec_l1Cur_clue.f (k + 1) a0 a1 a2) := by
 intro a0 a1 a2 k
 obtain ⟨ih0, ih1, ih2, ih3⟩ := spec_l1Cur_clue.mono_l k
 unfold spec_l1Cur_clue.f
 have m1_ := @ih0
 have m2_ := @ih1
 have m3_ := @ih2
 have m4_ := @ih3
 exact zM_
theorem spec_l1Cur_clue.calls (k : Nat) (g : Nat) (s0_0 : List Int) (s0_1 : Int) (s0_2 : Int) (r1 : Int) (r2 : Int) (r3 : Int) (r4 : Int) (r5 : Int) (w0 w : World) (hI : IsS68 w0 w g s0_0 s0_1 s0_2) (hB : Below w0.heap.size w0 w) (h : spec_l1Cur_clue.f k s0_0 s0_1 s0_2 = some (r1, r2, r3, r4, r5)) :
 Calls Tryz.prog 79 #[.pointer (some ⟨g, 0, none⟩)] w fun e w' => e = .returned (.agg #[.int .i64 r1, .int .i64 r2, .int .i64 r3]) ∧ IsS68 w0 w' g s0_0 r4 r5 ∧ Below w0.heap.size w0 w' ∧ KeepBut w w' g none := by
 have hu46 := Tryz.underlying46
 have HI0 := Aside0.mk hI
 have HK := Aside0.mk (KeepBut.refl w g none)
 have HL := Aside0.mk hB.size
 clear hI
 have HW0 := Aside0.mk hB.size
 have HB := Aside0.mk hB
 clear hB
 unfold spec_l1Cur_clue.f at h
 have H := h
 clear h
 replace H := bd_ H; obtain ⟨⟨t163, t164, t165⟩, A2, H⟩ := H
 dsimp only at H
 replace H := bd_ H; obtain ⟨⟨t166, t167, t168⟩, A3, H⟩ := H
 dsimp only at H
 replace H := bd_ H; obtain ⟨⟨t169, t170, t171⟩, A4, H⟩ := H
 dsimp only at H
 replace H := bd_ H; obtain ⟨⟨t172, t173, t174⟩, A5, H⟩ := H
 dsimp only at H
 have HC6 := Aside0.mk H
 clear H
 go_enter Tryz.func79, Tryz.ntmps79
 go_upto_block 0 with (first | (refine bx_ 2 #[.int .i64 0, .int .i64 0, .int .i64 0] 46 ?_; intro gb162 hg w7 hbox hb; replace HB := Aside0.mk (below_step (by repeat (first | (with_reducible first | exact HB.out | apply below_alloc | apply pw_below_drewN | apply below_drew1 | refine below_set ?_ (IsS68.ge HI0.out)) | exact HB.out)) hb); have BK162 := Aside0.mk (hbox); have GW162 := Aside0.mk ((by rw [hg]; exact (keep_size (w := w) (g := g) (row := none) z5_5_) : w.heap.size ≤ gb162)); have GE162 := Aside0.mk ((Nat.le_trans HW0.out (by rw [hg]; exact (keep_size (w := w) (g := g) (row := none) z5_5_) : w.heap.size ≤ gb162) : w0.heap.size ≤ gb162)); replace HK := Aside0.mk (KeepBut.trans z5_5_ (KeepBut.of_below hb g none) (.inl rfl)); have NB0_162 := Aside0.mk ((by rw [hg]; exact Nat.ne_of_lt (IsS68.lt (show IsS68 w0 _ g s0_0 s0_1 s0_2 from by repeat (first | (with_reducible first | exact HI0.out | apply IsS68.alloc | apply IsS68.drewN | apply IsS68.drew | apply IsS68.set_1 | apply IsS68.set_2) | exact HI0.out))) : g ≠ gb162)); have NB162_0 := Aside0.mk ((by rw [hg]; exact Nat.ne_of_gt (IsS68.lt (show IsS68 w0 _ g s0_0 s0_1 s0_2 from by repeat (first | (with_reducible first | exact HI0.out | apply IsS68.alloc | apply IsS68.drewN | apply IsS68.drew | apply IsS68.set_1 | apply IsS68.set_2) | exact HI0.out))) : gb162 ≠ g)); replace HI0 := Aside0.mk (IsS68.below zq6_0_ hb); clear hb hbox hg) | ((with_reducible refine gc_ 76 rfl ?_); refine gL_ 5 Tryz.func76 #[.pointer (some ⟨g, 0, none⟩), .int .i64 6] ?_; (with_reducible refine (spec_l1Cur_pick.calls g s0_0 s0_1 s0_2 6 t163 t164 t165 w0 _ ?side1 ?side2 A2.out).mono ?_); (case side1 => exact zc6_5_); (case side2 => exact zc6_7_); rintro e w8 ⟨rfl, hi, hb, hk⟩; refine ⟨_, rfl, ?_⟩; replace BK162 := Aside0.mk (KeepBut.blk hk (g' := gb162) (o := .cells #[.int .i64 0, .int .i64 0, .int .i64 0] 46 (0, 0)) z5_0_ NB162_0.out (by simp)); replace HK := Aside0.mk (KeepBut.trans z5_3_ hk (.inl rfl)); replace HB := Aside0.mk (hb); replace HI0 := Aside0.mk (hi)) | ((with_reducible refine gc_ 76 rfl ?_); refine gL_ 7 Tryz.func76 #[.pointer (some ⟨g, 0, none⟩), .int .i64 9] ?_; (with_reducible refine (spec_l1Cur_pick.calls g s0_0 t164 t165 9 t166 t167 t168 w0 _ ?side1 ?side2 A3.out).mono ?_); (case side1 => exact zc6_5_); (case side2 => exact zc6_7_); rintro e w9 ⟨rfl, hi, hb, hk⟩; refine ⟨_, rfl, ?_⟩; replace BK162 := Aside0.mk (KeepBut.blk hk (g' := gb162) (o := .cells #[.int .i64 0, .int .i64 0, .int .i64 0] 46 (0, 0)) z5_0_ NB162_0.out (by simp)); replace HK := Aside0.mk (KeepBut.trans z5_3_ hk (.inl rfl)); replace HB := Aside0.mk (hb); replace HI0 := Aside0.mk (hi)) | ((with_reducible refine gc_ 76 rfl ?_); refine gL_ 11 Tryz.func76 #[.pointer (some ⟨g, 0, none⟩), .int .i64 8] ?_; (with_reducible refine (spec_l1Cur_pick.calls g s0_0 t167 t168 8 t169 t170 t171 w0 _ ?side1 ?side2 A4.out).mono ?_); (case side1 => exact zc6_5_); (case side2 => exact zc6_7_); rintro e w10 ⟨rfl, hi, hb, hk⟩; refine ⟨_, rfl, ?_⟩; replace BK162 := Aside0.mk (KeepBut.blk hk (g' := gb162) (o := .cells #[.int .i64 0, .int .i64 0, .int .i64 0] 46 (0, 0)) z5_0_ NB162_0.out (by simp)); replace HK := Aside0.mk (KeepBut.trans z5_3_ hk (.inl rfl)); replace HB := Aside0.mk (hb); replace HI0 := Aside0.mk (hi)) | ((with_reducible refine gc_ 76 rfl ?_); refine gL_ 13 Tryz.func76 #[.pointer (some ⟨g, 0, none⟩), .int .i64 9] ?_; (with_reducible refine (spec_l1Cur_pick.calls g s0_0 t170 t171 9 t172 t173 t174 w0 _ ?side1 ?side2 A5.out).mono ?_); (case side1 => exact zc6_5_); (case side2 => exact zc6_7_); rintro e w11 ⟨rfl, hi, hb, hk⟩; refine ⟨_, rfl, ?_⟩; replace BK162 := Aside0.mk (KeepBut.blk hk (g' := gb162) (o := .cells #[.int .i64 0, .int .i64 0, .int .i64 0] 46 (0, 0)) z5_0_ NB162_0.out (by simp)); replace HK := Aside0.mk (KeepBut.trans z5_3_ hk (.inl rfl)); replace HB := Aside0.mk (hb); replace HI0 := Aside0.mk (hi)) | (refine bx_ 3 #[.int .i64 0, .int .i64 0, .int .i64 0] 46 ?_; intro gb175 hg w12 hbox hb; replace HB := Aside0.mk (below_step (by repeat (first | (with_reducible first | exact HB.out | apply below_alloc | apply pw_below_drewN | apply below_drew1 | refine below_set ?_ (IsS68.ge HI0.out) | refine below_set ?_ GE162.out) | exact HB.out)) hb); have BK175 := Aside0.mk (hbox); have GW175 := Aside0.mk ((by rw [hg]; exact (keep_size (w := w) (g := g) (row := none) z5_3_) : w.heap.size ≤ gb175)); have GE175 := Aside0.mk ((Nat.le_trans HW0.out (by rw [hg]; exact (keep_size (w := w) (g := g) (row := none) z5_3_) : w.heap.size ≤ gb175) : w0.heap.size ≤ gb175)); replace HK := Aside0.mk (KeepBut.trans z5_3_ (KeepBut.of_below hb g none) (.inl rfl)); have NB162_175 := nl_ BK162 z5_0_ hg; have NB175_162 := ns_ NB162_175; replace BK162 := bb_ BK162 z5_0_ hb; have NB0_175 := Aside0.mk ((by rw [hg]; exact Nat.ne_of_lt (IsS68.lt (show IsS68 w0 _ g s0_0 t173 t174 from by repeat (first | (with_reducible first | exact HI0.out | apply IsS68.alloc | apply IsS68.drewN | apply IsS68.drew | apply IsS68.set_1 | apply IsS68.set_2 | refine IsS68.far ?_ NB0_162.out _) | exact HI0.out))) : g ≠ gb175)); have NB175_0 := Aside0.mk ((by rw [hg]; exact Nat.ne_of_gt (IsS68.lt (show IsS68 w0 _ g s0_0 t173 t174 from by repeat (first | (with_reducible first | exact HI0.out | apply IsS68.alloc | apply IsS68.drewN | apply IsS68.drew | apply IsS68.set_1 | apply IsS68.set_2 | refine IsS68.far ?_ NB0_162.out _) | exact HI0.out))) : gb175 ≠ g)); replace HI0 := Aside0.mk (IsS68.below (by repeat (first | (with_reducible first | exact HI0.out | apply IsS68.alloc | apply IsS68.drewN | apply IsS68.drew | apply IsS68.set_1 | apply IsS68.set_2 | refine IsS68.far ?_ NB0_162.out _) | exact HI0.out)) hb); clear hb hbox hg; have hnb13 := NB175_162.out; have hnc13 := NB162_175.out; have hnb14 := NB175_0.out; have hnc14 := NB0_175.out; have hcz15_0 : w12.cell? ⟨gb175, 0, none⟩ = some (.int .i64 0) := (blk_cell BK175.out 0).trans rfl; have hcz15_1 : w12.cell? ⟨gb175, 1, none⟩ = some (.int .i64 0) := (blk_cell BK175.out 1).trans rfl; have hcz15_2 : w12.cell? ⟨gb175, 2, none⟩ = some (.int .i64 0) := (blk_cell BK175.out 2).trans rfl; have hfz15_0 := blk_frozen BK175.out 0; have hfz15_1 := blk_frozen BK175.out 1; have hfz15_2 := blk_frozen BK175.out 2))
 (try simp only [Act.put, List.setIfInBounds_toArray, List.set_cons_zero, List.set_cons_succ])
 go_cut [] (fun wc => ∃ (kq : Nat) (x1001_5 : Int) (x1002_5 : Int) (x176001_5 : Int) (x176002_5 : Int), Aside0 (spec_l1Cur_clue.j1 kq s0_0 x1001_5 x1002_5 (wrap64 (t163 + (wrap64 (Int.tdiv t166 8)))) x176001_5 x176002_5 = some (r1, r2, r3, r4, r5)) ∧ Aside0 (kq ≤ k) ∧ Aside0 (wc.heap[gb162]? = some (.cells #[.int .i64 0, .int .i64 0, .int .i64 0] 46 (0, 0))) ∧ Aside0 (wc.heap[gb175]? = some (.cells #[.int .i64 (wrap64 (t163 + (wrap64 (Int.tdiv t166 8)))), .int .i64 x176001_5, .int .i64 x176002_5] 46 (0, 0))) ∧ Aside0 (IsS68 w0 wc g s0_0 x1001_5 x1002_5) ∧ Aside0 (KeepBut w wc g none) ∧ Aside0 (Below w0.heap.size w0 wc))
 case first =>
  have H := HC6.out
  clear HC6
  by_cases c16 : (wrap64 (t163 + (wrap64 (Int.tdiv t166 8)))) = 0
  · obtain ⟨H, c16b0, c16b1⟩ := ep_ c16 H
    clear c16
    (first | rw [c16b0] | (simp only [i64_w, i32_w]; rw [c16b0]) | skip)
    replace H := bd_ H; obtain ⟨⟨t176, t177, t178⟩, A17, H⟩ := H
    dsimp only at H
    have H' := Aside0.mk H
    clear H
    go_wp2_with (first | ((with_reducible refine gc_ 76 rfl ?_); refine gL_ 22 Tryz.func76 #[.pointer (some ⟨g, 0, none⟩), .int .i64 3] ?_; (with_reducible refine (spec_l1Cur_pick.calls g s0_0 t173 t174 3 t176 t177 t178 w0 _ ?side1 ?side2 A17.out).mono ?_); (case side1 => exact zc6_0_); (case side2 => exact zc6_2_); rintro e w18 ⟨rfl, hi, hb, hk⟩; refine ⟨_, rfl, ?_⟩; replace BK162 := Aside0.mk (KeepBut.blk hk (g' := gb162) (o := .cells #[.int .i64 0, .int .i64 0, .int .i64 0] 46 (0, 0)) (by refine b_ ?_; refine blk_far ?_ NB162_175.out _; refine b_ ?_; refine blk_far ?_ NB162_175.out _; refine b_ ?_; refine blk_far ?_ NB162_175.out _; exact b_ BK162.out) NB162_0.out (by simp)); replace BK175 := Aside0.mk (KeepBut.blk hk (g' := gb175) (o := .cells #[.int .i64 (wrap64 (t163 + (wrap64 (Int.tdiv t166 8)))), .int .i64 0, .int .i64 (wrap64 (t169 - (wrap64 (Int.tdiv t172 8))))] 46 (0, 0)) (by refine b_ ?_; refine blk_put (cs := #[.int .i64 (wrap64 (t163 + (wrap64 (Int.tdiv t166 8)))), .int .i64 0, .int .i64 0]) ?_ 2 _ rfl; refine b_ ?_; refine blk_put (cs := #[.int .i64 (wrap64 (t163 + (wrap64 (Int.tdiv t166 8)))), .int .i64 0, .int .i64 0]) ?_ 1 _ rfl; refine b_ ?_; refine blk_put (cs := #[.int .i64 0, .int .i64 0, .int .i64 0]) ?_ 0 _ rfl; exact b_ BK175.out) NB175_0.out (by simp)); replace HK := Aside0.mk (KeepBut.trans z5_2_ hk (.inl rfl)); replace HB := Aside0.mk (hb); replace HI0 := Aside0.mk (hi); have hnb19 := NB175_162.out; have hnc19 := NB162_175.out; have hnb20 := NB175_0.out; have hnc20 := NB0_175.out; have hcz21_0 : w18.cell? ⟨gb175, 0, none⟩ = some (.int .i64 (wrap64 (t163 + (wrap64 (Int.tdiv t166 8))))) := (blk_cell BK175.out 0).trans rfl; have hcz21_1 : w18.cell? ⟨gb175, 1, none⟩ = some (.int .i64 0) := (blk_cell BK175.out 1).trans rfl; have hcz21_2 : w18.cell? ⟨gb175, 2, none⟩ = some (.int .i64 (wrap64 (t169 - (wrap64 (Int.tdiv t172 8))))) := (blk_cell BK175.out 2).trans rfl; have hfz21_0 := blk_frozen BK175.out 0; have hfz21_1 := blk_frozen BK175.out 1; have hfz21_2 := blk_frozen BK175.out 2))
    go_meet
    case rel => exact ⟨_, (t177), (t178), (t176), (wrap64 (t169 - (wrap64 (Int.tdiv t172 8)))), H', ⟨zs6_8⟩, ⟨zs6_17⟩, ⟨zs6_18⟩, ⟨zs6_19⟩, ⟨zs6_20⟩, ⟨zs6_21⟩⟩
  obtain ⟨H, c16b0, c16b1⟩ := en_ c16 H
  (first | rw [c16b0] | (simp only [i64_w, i32_w]; rw [c16b0]) | skip)
  have HC22 := Aside0.mk H
  clear H
  go_upto_if 24 with (fail)
  go_cut [24] (fun v24 wc => ∃ (kq : Nat) (x24_21 : Bool), v24 = .bool x24_21 ∧ Aside0 (spec_l1Cur_clue.j0 kq (wrap64 (t163 + (wrap64 (Int.tdiv t166 8)))) x24_21 s0_0 t173 t174 (wrap64 (t163 + (wrap64 (Int.tdiv t166 8)))) 0 (wrap64 (t169 - (wrap64 (Int.tdiv t172 8)))) = some (r1, r2, r3, r4, r5)) ∧ Aside0 (kq ≤ k) ∧ Aside0 (wc.heap[gb162]? = some (.cells #[.int .i64 0, .int .i64 0, .int .i64 0] 46 (0, 0))) ∧ Aside0 (wc.heap[gb175]? = some (.cells #[.int .i64 (wrap64 (t163 + (wrap64 (Int.tdiv t166 8)))), .int .i64 0, .int .i64 (wrap64 (t169 - (wrap64 (Int.tdiv t172 8))))] 46 (0, 0))) ∧ Aside0 (IsS68 w0 wc g s0_0 t173 t174) ∧ Aside0 (KeepBut w wc g none) ∧ Aside0 (Below w0.heap.size w0 wc))
  case first =>
   have H := HC22.out
   clear HC22
   by_cases c23 : (wrap64 (t163 + (wrap64 (Int.tdiv t166 8)))) = 1
   · obtain ⟨H, c23b0, c23b1⟩ := ep_ c23 H
     clear c23
     (first | rw [c23b0] | (simp only [i64_w, i32_w]; rw [c23b0]) | skip)
     have H' := Aside0.mk H
     clear H
     go_wp2
     go_meet
     case rel => exact ⟨_, (((wrap64 (t163 + (wrap64 (Int.tdiv t166 8)))) == 1)), zV_, H', ⟨zs6_8⟩, ⟨zs6_22⟩, ⟨zs6_23⟩, ⟨zs6_19⟩, ⟨zs6_20⟩, ⟨zs6_21⟩⟩
   obtain ⟨H, c23b0, c23b1⟩ := en_ c23 H
   (first | rw [c23b0] | (simp only [i64_w, i32_w]; rw [c23b0]) | skip)
   have H' := Aside0.mk H
   clear H
   go_wp2
   go_meet
   case rel => exact ⟨_, (((wrap64 (t163 + (wrap64 (Int.tdiv t166 8)))) == 3)), zV_, H', ⟨zs6_8⟩, ⟨zs6_22⟩, ⟨zs6_23⟩, ⟨zs6_19⟩, ⟨zs6_20⟩, ⟨zs6_21⟩⟩
  case rest =>
   clear HC22
   obtain ⟨kq, x24_21, rfl, HA, HJ21, BK162, BK175, HI0, HK, HB⟩ := hcut
   cases kq with
   | zero => exact absurd HA.out (by simp [spec_l1Cur_clue.j0])
   | succ kj21 =>
    have H := HA.out
    clear HA
    simp only [spec_l1Cur_clue.j0] at H
    by_cases c24 : x24_21 = true
    · subst c24
      rw [if_pos rfl] at H
      replace H := bd_ H; obtain ⟨⟨t179, t180, t181⟩, A25, H⟩ := H
      dsimp only at H
      have H' := Aside0.mk H
      clear H
      go_wp2_with (first | ((with_reducible refine gc_ 76 rfl ?_); refine gL_ 28 Tryz.func76 #[.pointer (some ⟨g, 0, none⟩), .int .i64 5] ?_; (with_reducible refine (spec_l1Cur_pick.calls g s0_0 t173 t174 5 t179 t180 t181 w0 _ ?side1 ?side2 A25.out).mono ?_); (case side1 => exact zc6_0_); (case side2 => exact zc6_2_); rintro e w26 ⟨rfl, hi, hb, hk⟩; refine ⟨_, rfl, ?_⟩; replace BK162 := Aside0.mk (KeepBut.blk hk (g' := gb162) (o := .cells #[.int .i64 0, .int .i64 0, .int .i64 0] 46 (0, 0)) z5_0_ NB162_0.out (by simp)); replace BK175 := Aside0.mk (KeepBut.blk hk (g' := gb175) (o := .cells #[.int .i64 (wrap64 (t163 + (wrap64 (Int.tdiv t166 8)))), .int .i64 0, .int .i64 (wrap64 (t169 - (wrap64 (Int.tdiv t172 8))))] 46 (0, 0)) z5_4_ NB175_0.out (by simp)); replace HK := Aside0.mk (KeepBut.trans z5_2_ hk (.inl rfl)); replace HB := Aside0.mk (hb); replace HI0 := Aside0.mk (hi); have hnb27 := NB175_162.out; have hnc27 := NB162_175.out; have hnb28 := NB175_0.out; have hnc28 := NB0_175.out; have hcz29_0 : w26.cell? ⟨gb175, 0, none⟩ = some (.int .i64 (wrap64 (t163 + (wrap64 (Int.tdiv t166 8))))) := (blk_cell BK175.out 0).trans rfl; have hcz29_1 : w26.cell? ⟨gb175, 1, none⟩ = some (.int .i64 0) := (blk_cell BK175.out 1).trans rfl; have hcz29_2 : w26.cell? ⟨gb175, 2, none⟩ = some (.int .i64 (wrap64 (t169 - (wrap64 (Int.tdiv t172 8))))) := (blk_cell BK175.out 2).trans rfl; have hfz29_0 := blk_frozen BK175.out 0; have hfz29_1 := blk_frozen BK175.out 1; have hfz29_2 := blk_frozen BK175.out 2))
      go_meet
      case rel => exact ⟨_, (t180), (t181), (t179), ((wrap64 (t169 - (wrap64 (Int.tdiv t172 8))))), H', ⟨zs6_24⟩, ⟨zs6_17⟩, ⟨zs6_18⟩, ⟨zs6_19⟩, ⟨zs6_20⟩, ⟨zs6_21⟩⟩
    replace H := bf_ c24 H; obtain ⟨rfl, H⟩ := H
    by_cases c30 : (wrap64 (t163 + (wrap64 (Int.tdiv t166 8)))) = 5
    · obtain ⟨H, c30b0, c30b1⟩ := ep_ c30 H
      clear c30
      replace H := bd_ H; obtain ⟨⟨t182, t183, t184⟩, A31, H⟩ := H
      dsimp only at H
      have H' := Aside0.mk H
      clear H
      go_wp2_with (first | ((with_reducible refine gc_ 76 rfl ?_); refine gL_ 33 Tryz.func76 #[.pointer (some ⟨g, 0, none⟩), .int .i64 10] ?_; (with_reducible refine (spec_l1Cur_pick.calls g s0_0 t173 t174 10 t182 t183 t184 w0 _ ?side1 ?side2 A31.out).mono ?_); (case side1 => exact zc6_0_); (case side2 => exact zc6_2_); rintro e w32 ⟨rfl, hi, hb, hk⟩; refine ⟨_, rfl, ?_⟩; replace BK162 := Aside0.mk (KeepBut.blk hk (g' := gb162) (o := .cells #[.int .i64 0, .int .i64 0, .int .i64 0] 46 (0, 0)) z5_0_ NB162_0.out (by simp)); replace BK175 := Aside0.mk (KeepBut.blk hk (g' := gb175) (o := .cells #[.int .i64 (wrap64 (t163 + (wrap64 (Int.tdiv t166 8)))), .int .i64 0, .int .i64 (wrap64 (t169 - (wrap64 (Int.tdiv t172 8))))] 46 (0, 0)) z5_4_ NB175_0.out (by simp)); replace HK := Aside0.mk (KeepBut.trans z5_2_ hk (.inl rfl)); replace HB := Aside0.mk (hb); replace HI0 := Aside0.mk (hi); have hnb33 := NB175_162.out; have hnc33 := NB162_175.out; have hnb34 := NB175_0.out; have hnc34 := NB0_175.out; have hcz35_0 : w32.cell? ⟨gb175, 0, none⟩ = some (.int .i64 (wrap64 (t163 + (wrap64 (Int.tdiv t166 8))))) := (blk_cell BK175.out 0).trans rfl; have hcz35_1 : w32.cell? ⟨gb175, 1, none⟩ = some (.int .i64 0) := (blk_cell BK175.out 1).trans rfl; have hcz35_2 : w32.cell? ⟨gb175, 2, none⟩ = some (.int .i64 (wrap64 (t169 - (wrap64 (Int.tdiv t172 8))))) := (blk_cell BK175.out 2).trans rfl; have hfz35_0 := blk_frozen BK175.out 0; have hfz35_1 := blk_frozen BK175.out 1; have hfz35_2 := blk_frozen BK175.out 2))
      go_meet
      case rel => exact ⟨_, (t183), (t184), (0), (wrap64 (1 + t182)), H', ⟨zs6_24⟩, ⟨zs6_17⟩, ⟨by refine b_ ?_; refine blk_put (cs := #[.int .i64 (wrap64 (t163 + (wrap64 (Int.tdiv t166 8)))), .int .i64 0, .int .i64 (wrap64 (t169 - (wrap64 (Int.tdiv t172 8))))]) ?_ 2 _ rfl; exact b_ BK175.out⟩, ⟨zs6_19⟩, ⟨zs6_20⟩, ⟨zs6_21⟩⟩
    obtain ⟨H, c30b0, c30b1⟩ := en_ c30 H
    have H' := Aside0.mk H
    clear H
    go_wp2
    go_meet
    case rel => exact ⟨_, (t173), (t174), (0), ((wrap64 (t169 - (wrap64 (Int.tdiv t172 8))))), H', ⟨zs6_24⟩, ⟨b_ BK162.out⟩, ⟨b_ BK175.out⟩, ⟨zs6_19⟩, ⟨zs6_20⟩, ⟨zs6_21⟩⟩
 case rest =>
  clear HC6
  obtain ⟨kq, x1001_5, x1002_5, x176001_5, x176002_5, HA, HJ5, BK162, BK175, HI0, HK, HB⟩ := hcut
  cases kq with
  | zero => exact absurd HA.out (by simp [spec_l1Cur_clue.j1])
  | succ kj5 =>
   have H := HA.out
   clear HA
   simp only [spec_l1Cur_clue.j1] at H
   have HC36 := Aside0.mk H
   clear H
   go_upto_region 10 with (fail)
   go_cut [43] (fun v43 wc => ∃ (kq : Nat) (x43_35 : Bool), v43 = .bool x43_35 ∧ Aside0 (spec_l1Cur_clue.j2 kq x43_35 s0_0 x1001_5 x1002_5 (wrap64 (t163 + (wrap64 (Int.tdiv t166 8)))) x176001_5 x176002_5 = some (r1, r2, r3, r4, r5)) ∧ Aside0 (kq ≤ kj5) ∧ Aside0 (wc.heap[gb162]? = some (.cells #[.int .i64 0, .int .i64 0, .int .i64 0] 46 (0, 0))) ∧ Aside0 (wc.heap[gb175]? = some (.cells #[.int .i64 (wrap64 (t163 + (wrap64 (Int.tdiv t166 8)))), .int .i64 x176001_5, .int .i64 x176002_5] 46 (0, 0))) ∧ Aside0 (IsS68 w0 wc g s0_0 x1001_5 x1002_5) ∧ Aside0 (KeepBut w wc g none) ∧ Aside0 (Below w0.heap.size w0 wc))
   case first =>
    have H := HC36.out
    clear HC36
    by_cases c37 : (wrap64 (t163 + (wrap64 (Int.tdiv t166 8)))) = 2
    · obtain ⟨H, c37b0, c37b1⟩ := ep_ c37 H
      clear c37
      (first | rw [c37b0] | (simp only [i64_w, i32_w]; rw [c37b0]) | skip)
      have H' := Aside0.mk H
      clear H
      have hnb38 := NB175_162.out
      have hnc38 := NB162_175.out
      have hnb39 := NB175_0.out
      have hnc39 := NB0_175.out
      have hcz40_0 : wc.cell? ⟨gb175, 0, none⟩ = some (.int .i64 (wrap64 (t163 + (wrap64 (Int.tdiv t166 8))))) := (blk_cell BK175.out 0).trans rfl
      have hcz40_1 : wc.cell? ⟨gb175, 1, none⟩ = some (.int .i64 x176001_5) := (blk_cell BK175.out 1).trans rfl
      have hcz40_2 : wc.cell? ⟨gb175, 2, none⟩ = some (.int .i64 x176002_5) := (blk_cell BK175.out 2).trans rfl
      have hfz40_0 := blk_frozen BK175.out 0
      have hfz40_1 := blk_frozen BK175.out 1
      have hfz40_2 := blk_frozen BK175.out 2
      go_wp2
      go_meet
      case rel => exact ⟨_, (true), zV_, H', ⟨zs6_25⟩, ⟨b_ BK162.out⟩, ⟨b_ BK175.out⟩, ⟨zs6_19⟩, ⟨zs6_20⟩, ⟨zs6_21⟩⟩
    obtain ⟨H, c37b0, c37b1⟩ := en_ c37 H
    (first | rw [c37b0] | (simp only [i64_w, i32_w]; rw [c37b0]) | skip)
    have H' := Aside0.mk H
    clear H
    have hnb41 := NB175_162.out
    have hnc41 := NB162_175.out
    have hnb42 := NB175_0.out
    have hnc42 := NB0_175.out
    have hcz43_0 : wc.cell? ⟨gb175, 0, none⟩ = some (.int .i64 (wrap64 (t163 + (wrap64 (Int.tdiv t166 8))))) := (blk_cell BK175.out 0).trans rfl
    have hcz43_1 : wc.cell? ⟨gb175, 1, none⟩ = some (.int .i64 x176001_5) := (blk_cell BK175.out 1).trans rfl
    have hcz43_2 : wc.cell? ⟨gb175, 2, none⟩ = some (.int .i64 x176002_5) := (blk_cell BK175.out 2).trans rfl
    have hfz43_0 := blk_frozen BK175.out 0
    have hfz43_1 := blk_frozen BK175.out 1
    have hfz43_2 := blk_frozen BK175.out 2
    go_wp2
    go_meet
    case rel => exact ⟨_, (((wrap64 (t163 + (wrap64 (Int.tdiv t166 8)))) == 3)), zV_, H', ⟨zs6_25⟩, ⟨b_ BK162.out⟩, ⟨b_ BK175.out⟩, ⟨zs6_19⟩, ⟨zs6_20⟩, ⟨zs6_21⟩⟩
   case rest =>
    clear HC36
    obtain ⟨kq, x43_35, rfl, HA, HJ35, BK162, BK175, HI0, HK, HB⟩ := hcut
    cases kq with
    | zero => exact absurd HA.out (by simp [spec_l1Cur_clue.j2])
    | succ kj35 =>
     have H := HA.out
     clear HA
     simp only [spec_l1Cur_clue.j2] at H
     have HC44 := Aside0.mk H
     clear H
     go_upto_if 43 with (fail)
     go_cut [] (fun wc => ∃ (kq : Nat) (x1001_43 : Int) (x1002_43 : Int) (x176002_43 : Int), Aside0 (spec_l1Cur_clue.j3 kq s0_0 x1001_43 x1002_43 (wrap64 (t163 + (wrap64 (Int.tdiv t166 8)))) x176001_5 x176002_43 = some (r1, r2, r3, r4, r5)) ∧ Aside0 (kq ≤ kj35) ∧ Aside0 (wc.heap[gb162]? = some (.cells #[.int .i64 0, .int .i64 0, .int .i64 0] 46 (0, 0))) ∧ Aside0 (wc.heap[gb175]? = some (.cells #[.int .i64 (wrap64 (t163 + (wrap64 (Int.tdiv t166 8)))), .int .i64 x176001_5, .int .i64 x176002_43] 46 (0, 0))) ∧ Aside0 (IsS68 w0 wc g s0_0 x1001_43 x1002_43) ∧ Aside0 (KeepBut w wc g none) ∧ Aside0 (Below w0.heap.size w0 wc))
     case first =>
      have H := HC44.out
      clear HC44
      by_cases c45 : x43_35 = true
      · subst c45
        rw [if_pos rfl] at H
        replace H := bd_ H; obtain ⟨⟨t185, t186, t187⟩, A46, H⟩ := H
        dsimp only at H
        have H' := Aside0.mk H
        clear H
        go_wp2_with (first | ((with_reducible refine gc_ 76 rfl ?_); refine gL_ 45 Tryz.func76 #[.pointer (some ⟨g, 0, none⟩), .int .i64 3] ?_; (with_reducible refine (spec_l1Cur_pick.calls g s0_0 x1001_5 x1002_5 3 t185 t186 t187 w0 _ ?side1 ?side2 A46.out).mono ?_); (case side1 => exact zc6_0_); (case side2 => exact zc6_2_); rintro e w47 ⟨rfl, hi, hb, hk⟩; refine ⟨_, rfl, ?_⟩; replace BK162 := Aside0.mk (KeepBut.blk hk (g' := gb162) (o := .cells #[.int .i64 0, .int .i64 0, .int .i64 0] 46 (0, 0)) z5_0_ NB162_0.out (by simp)); replace BK175 := Aside0.mk (KeepBut.blk hk (g' := gb175) (o := .cells #[.int .i64 (wrap64 (t163 + (wrap64 (Int.tdiv t166 8)))), .int .i64 x176001_5, .int .i64 x176002_5] 46 (0, 0)) z5_4_ NB175_0.out (by simp)); replace HK := Aside0.mk (KeepBut.trans z5_2_ hk (.inl rfl)); replace HB := Aside0.mk (hb); replace HI0 := Aside0.mk (hi); have hnb48 := NB175_162.out; have hnc48 := NB162_175.out; have hnb49 := NB175_0.out; have hnc49 := NB0_175.out; have hcz50_0 : w47.cell? ⟨gb175, 0, none⟩ = some (.int .i64 (wrap64 (t163 + (wrap64 (Int.tdiv t166 8))))) := (blk_cell BK175.out 0).trans rfl; have hcz50_1 : w47.cell? ⟨gb175, 1, none⟩ = some (.int .i64 x176001_5) := (blk_cell BK175.out 1).trans rfl; have hcz50_2 : w47.cell? ⟨gb175, 2, none⟩ = some (.int .i64 x176002_5) := (blk_cell BK175.out 2).trans rfl; have hfz50_0 := blk_frozen BK175.out 0; have hfz50_1 := blk_frozen BK175.out 1; have hfz50_2 := blk_frozen BK175.out 2))
        go_meet
        case rel => exact ⟨_, (t186), (t187), (t185), H', ⟨zs6_26⟩, ⟨zs6_17⟩, ⟨by refine b_ ?_; refine blk_put (cs := #[.int .i64 (wrap64 (t163 + (wrap64 (Int.tdiv t166 8)))), .int .i64 x176001_5, .int .i64 x176002_5]) ?_ 2 _ rfl; exact b_ BK175.out⟩, ⟨zs6_19⟩, ⟨zs6_20⟩, ⟨zs6_21⟩⟩
      replace H := bf_ c45 H; obtain ⟨rfl, H⟩ := H
      have H' := Aside0.mk H
      clear H
      go_wp2
      go_meet
      case rel => exact ⟨_, (x1001_5), (x1002_5), (x176002_5), H', ⟨zs6_26⟩, ⟨b_ BK162.out⟩, ⟨b_ BK175.out⟩, ⟨zs6_19⟩, ⟨zs6_20⟩, ⟨zs6_21⟩⟩
     case rest =>
      clear HC44
      obtain ⟨kq, x1001_43, x1002_43, x176002_43, HA, HJ43, BK162, BK175, HI0, HK, HB⟩ := hcut
      cases kq with
      | zero => exact absurd HA.out (by simp [spec_l1Cur_clue.j3])
      | succ kj43 =>
       have H := HA.out
       clear HA
       simp only [spec_l1Cur_clue.j3] at H
       replace H := bd_ H; obtain ⟨⟨t188, t189, t190⟩, A51, H⟩ := H
       dsimp only at H
       by_cases c52 : t188 = true
       · subst c52
         rw [if_pos rfl] at H
         replace H := bd_ H; obtain ⟨⟨t191, t192, t193⟩, A53, H⟩ := H
         dsimp only at H
         simp only [Option.some.injEq, Prod.mk.injEq] at H
         obtain ⟨rfl, rfl, rfl, rfl, rfl⟩ := H
         go_wp2_with (first | ((with_reducible refine gc_ 56 rfl ?_); refine gL_ 48 Tryz.func56 #[.pointer (some ⟨g, 0, none⟩), .int .i64 14] ?_; (with_reducible refine (spec_l1Cur_one.calls g s0_0 x1001_43 x1002_43 14 true t189 t190 w0 _ ?side1 ?side2 A51.out).mono ?_); (case side1 => exact zc6_0_); (case side2 => exact zc6_2_); rintro e w54 ⟨rfl, hi, hb, hk⟩; refine ⟨_, rfl, ?_⟩; replace BK162 := Aside0.mk (KeepBut.blk hk (g' := gb162) (o := .cells #[.int .i64 0, .int .i64 0, .int .i64 0] 46 (0, 0)) z5_0_ NB162_0.out (by simp)); replace BK175 := Aside0.mk (KeepBut.blk hk (g' := gb175) (o := .cells #[.int .i64 (wrap64 (t163 + (wrap64 (Int.tdiv t166 8)))), .int .i64 x176001_5, .int .i64 x176002_43] 46 (0, 0)) z5_4_ NB175_0.out (by simp)); replace HK := Aside0.mk (KeepBut.trans z5_2_ hk (.inl rfl)); replace HB := Aside0.mk (hb); replace HI0 := Aside0.mk (hi)) | ((with_reducible refine gc_ 76 rfl ?_); refine gL_ 50 Tryz.func76 #[.pointer (some ⟨g, 0, none⟩), .int .i64 3] ?_; (with_reducible refine (spec_l1Cur_pick.calls g s0_0 t189 t190 3 t191 t192 t193 w0 _ ?side1 ?side2 A53.out).mono ?_); (case side1 => exact zc6_0_); (case side2 => exact zc6_2_); rintro e w55 ⟨rfl, hi, hb, hk⟩; refine ⟨_, rfl, ?_⟩; replace BK162 := Aside0.mk (KeepBut.blk hk (g' := gb162) (o := .cells #[.int .i64 0, .int .i64 0, .int .i64 0] 46 (0, 0)) z5_0_ NB162_0.out (by simp)); replace BK175 := Aside0.mk (KeepBut.blk hk (g' := gb175) (o := .cells #[.int .i64 (wrap64 (t163 + (wrap64 (Int.tdiv t166 8)))), .int .i64 x176001_5, .int .i64 x176002_43] 46 (0, 0)) z5_4_ NB175_0.out (by simp)); replace HK := Aside0.mk (KeepBut.trans z5_2_ hk (.inl rfl)); replace HB := Aside0.mk (hb); replace HI0 := Aside0.mk (hi); have hnb56 := NB175_162.out; have hnc56 := NB162_175.out; have hnb57 := NB175_0.out; have hnc57 := NB0_175.out; have hcz58_0 : w55.cell? ⟨gb175, 0, none⟩ = some (.int .i64 (wrap64 (t163 + (wrap64 (Int.tdiv t166 8))))) := (blk_cell BK175.out 0).trans rfl; have hcz58_1 : w55.cell? ⟨gb175, 1, none⟩ = some (.int .i64 x176001_5) := (blk_cell BK175.out 1).trans rfl; have hcz58_2 : w55.cell? ⟨gb175, 2, none⟩ = some (.int .i64 x176002_43) := (blk_cell BK175.out 2).trans rfl; have hfz58_0 := blk_frozen BK175.out 0; have hfz58_1 := blk_frozen BK175.out 1; have hfz58_2 := blk_frozen BK175.out 2; have hnb59 := NB162_0.out; have hnc59 := NB0_162.out; have hcz60_0 : w55.cell? ⟨gb162, 0, none⟩ = some (.int .i64 0) := (blk_cell BK162.out 0).trans rfl; have hcz60_1 : w55.cell? ⟨gb162, 1, none⟩ = some (.int .i64 0) := (blk_cell BK162.out 1).trans rfl; have hcz60_2 : w55.cell? ⟨gb162, 2, none⟩ = some (.int .i64 0) := (blk_cell BK162.out 2).trans rfl; have hfz60_0 := blk_frozen BK162.out 0; have hfz60_1 := blk_frozen BK162.out 1; have hfz60_2 := blk_frozen BK162.out 2))
         refine bodyPost_ret (results_cell_row rfl _ _ gb162 46 #[.int .i64 (wrap64 (t163 + (wrap64 (Int.tdiv t166 8)))), .int .i64 (wrap64 (t191 - 1)), .int .i64 x176002_43] (0, 0) _ rfl (by refine b_ ?_; refine blk_put (cs := #[.int .i64 (wrap64 (t163 + (wrap64 (Int.tdiv t166 8)))), .int .i64 (wrap64 (t191 - 1)), .int .i64 0]) ?_ 2 _ rfl; refine b_ ?_; refine blk_put (cs := #[.int .i64 (wrap64 (t163 + (wrap64 (Int.tdiv t166 8)))), .int .i64 0, .int .i64 0]) ?_ 1 _ rfl; refine b_ ?_; refine blk_put (cs := #[.int .i64 0, .int .i64 0, .int .i64 0]) ?_ 0 _ rfl; refine b_ ?_; refine blk_far ?_ NB162_175.out _; exact b_ BK162.out) Tryz.underlying46 rfl (by kernel_rfl)) rfl ?_
         exact ⟨zR_, zs6_19, zs6_21, zs6_20⟩
       replace H := bf_ c52 H; obtain ⟨rfl, H⟩ := H
       simp only [Option.some.injEq, Prod.mk.injEq] at H
       obtain ⟨rfl, rfl, rfl, rfl, rfl⟩ := H
       go_wp2_with (first | ((with_reducible refine gc_ 56 rfl ?_); refine gL_ 48 Tryz.func56 #[.pointer (some ⟨g, 0, none⟩), .int .i64 14] ?_; (with_reducible refine (spec_l1Cur_one.calls g s0_0 x1001_43 x1002_43 14 false t189 t190 w0 _ ?side1 ?side2 A51.out).mono ?_); (case side1 => exact zc6_0_); (case side2 => exact zc6_2_); rintro e w61 ⟨rfl, hi, hb, hk⟩; refine ⟨_, rfl, ?_⟩; replace BK162 := Aside0.mk (KeepBut.blk hk (g' := gb162) (o := .cells #[.int .i64 0, .int .i64 0, .int .i64 0] 46 (0, 0)) z5_0_ NB162_0.out (by simp)); replace BK175 := Aside0.mk (KeepBut.blk hk (g' := gb175) (o := .cells #[.int .i64 (wrap64 (t163 + (wrap64 (Int.tdiv t166 8)))), .int .i64 x176001_5, .int .i64 x176002_43] 46 (0, 0)) z5_4_ NB175_0.out (by simp)); replace HK := Aside0.mk (KeepBut.trans z5_2_ hk (.inl rfl)); replace HB := Aside0.mk (hb); replace HI0 := Aside0.mk (hi); have hnb62 := NB175_162.out; have hnc62 := NB162_175.out; have hnb63 := NB175_0.out; have hnc63 := NB0_175.out; have hcz64_0 : w61.cell? ⟨gb175, 0, none⟩ = some (.int .i64 (wrap64 (t163 + (wrap64 (Int.tdiv t166 8))))) := (blk_cell BK175.out 0).trans rfl; have hcz64_1 : w61.cell? ⟨gb175, 1, none⟩ = some (.int .i64 x176001_5) := (blk_cell BK175.out 1).trans rfl; have hcz64_2 : w61.cell? ⟨gb175, 2, none⟩ = some (.int .i64 x176002_43) := (blk_cell BK175.out 2).trans rfl; have hfz64_0 := blk_frozen BK175.out 0; have hfz64_1 := blk_frozen BK175.out 1; have hfz64_2 := blk_frozen BK175.out 2; have hnb65 := NB162_0.out; have hnc65 := NB0_162.out; have hcz66_0 : w61.cell? ⟨gb162, 0, none⟩ = some (.int .i64 0) := (blk_cell BK162.out 0).trans rfl; have hcz66_1 : w61.cell? ⟨gb162, 1, none⟩ = some (.int .i64 0) := (blk_cell BK162.out 1).trans rfl; have hcz66_2 : w61.cell? ⟨gb162, 2, none⟩ = some (.int .i64 0) := (blk_cell BK162.out 2).trans rfl; have hfz66_0 := blk_frozen BK162.out 0; have hfz66_1 := blk_frozen BK162.out 1; have hfz66_2 := blk_frozen BK162.out 2))
       refine bodyPost_ret (results_cell_row rfl _ _ gb162 46 #[.int .i64 (wrap64 (t163 + (wrap64 (Int.tdiv t166 8)))), .int .i64 x176001_5, .int .i64 x176002_43] (0, 0) _ rfl (by refine b_ ?_; refine blk_put (cs := #[.int .i64 (wrap64 (t163 + (wrap64 (Int.tdiv t166 8)))), .int .i64 x176001_5, .int .i64 0]) ?_ 2 _ rfl; refine b_ ?_; refine blk_put (cs := #[.int .i64 (wrap64 (t163 + (wrap64 (Int.tdiv t166 8)))), .int .i64 0, .int .i64 0]) ?_ 1 _ rfl; refine b_ ?_; refine blk_put (cs := #[.int .i64 0, .int .i64 0, .int .i64 0]) ?_ 0 _ rfl; exact b_ BK162.out) Tryz.underlying46 rfl (by kernel_rfl)) rfl ?_
       exact ⟨zR_, zs6_19, zs6_21, zs6_20⟩

theorem z6_0_ {p : Prop} (h : p := by repeat (first | (with_reducible first | exact HK.out | apply KeepBut.set_ | apply keep_drewN | apply keep_drew | apply keep_alloc | refine keep_far ?_ GW194.out _ | refine keep_far ?_ GW200.out _) | exact HK.out)) : p := h
theorem z6_1_ {p : Prop} (h : p := by exact b_ BK194.out) : p := h
theorem z6_2_ {p : Prop} (h : p := by (try simp only [List.map_toArray, List.map_cons, List.map_nil]); first | done | rfl | (simp only [List.length_drop, List.length_take]; rfl)) : p := h
theorem z6_3_ {p : Prop} (h : p := by repeat (first | (with_reducible first | exact HK.out | apply KeepBut.set_ | apply keep_drewN | apply keep_drew | apply keep_alloc | refine keep_far ?_ GW194.out _) | exact HK.out)) : p := h
theorem z6_5_ {p : Prop} (h : p := by exact b_ BK200.out) : p := h
theorem z6_6_ {p : Prop} (h : p := by exact rr_ HO_201000.out) : p := h
theorem z6_7_ {p : Prop} (h : p := by refine b_ ?_; refine blk_put (cs := #[.slice none 0 0]) ?_ 0 _ rfl; exact b_ BK194.out) : p := h
theorem z6_8_ {p : Prop} (h : p := by repeat (first | (with_reducible first | exact HI0.out | apply IsS68.alloc | apply IsS68.drewN | apply IsS68.drew | apply IsS68.set_1 | apply IsS68.set_2 | refine IsS68.far ?_ NB0_194.out _ | refine IsS68.far ?_ NB0_200.out _) | exact HI0.out)) : p := h
theorem z6_9_ {p : Prop} (h : p := by exact b_ BK218.out) : p := h
theorem z6_10_ {p : Prop} (h : p := by repeat (first | (with_reducible first | exact HB.out | apply below_alloc | apply pw_below_drewN | apply below_drew1 | refine below_set ?_ (IsS68.ge HI0.out) | refine below_set ?_ GE194.out | refine below_set ?_ GE200.out) | exact HB.out)) : p := h
theorem z6_11_ {p : Prop} (h : p := by repeat (first | (with_reducible first | exact HK.out | apply KeepBut.set_ | apply keep_drewN | apply keep_drew | apply keep_alloc) | exact HK.out)) : p := h

/-! ### spec_l1Cur_puzzle: function 59 -/
mutual
def spec_l1Cur_puzzle.j0 : Nat → Int → Bool → List Int → Int → Int → List (S46) → Option ((List (S46)) × Int × Int)
 | 0, _, _, _, _, _, _ => none
 | k + 1, x7, x8, x1000, x1001, x1002, x201000 => if x8 = true then ((spec_l1Cur_clue.f k x1000 x1001 x1002).bind fun bt204 => (if x201000.length < 5864062014805 then (some ((x201000 ++ [(⟨bt204.1, bt204.2.1, bt204.2.2.1⟩ : S46)]), bt204.2.2.2.1, bt204.2.2.2.2)) else (none))) else (if x7 = 3 then (spec_l1Cur_puzzle.l0 k x1000 x1001 x1002 x201000) else (some (x201000, x1001, x1002)))
def spec_l1Cur_puzzle.l0 : Nat → List Int → Int → Int → List (S46) → Option ((List (S46)) × Int × Int)
 | 0, _, _, _, _ => none
 | k + 1, x1000, x1001, x1002, x201000 => (spec_l1Cur_pick.f x1000 x1001 x1002 2).bind fun bt212 => (if (x201000.length : Int) < (wrap64 (6 + bt212.1)) then (if x201000.length < 5864062014805 then (spec_l1Cur_puzzle.l0 k x1000 bt212.2.1 bt212.2.2 (x201000 ++ [(⟨0, 0, 5⟩ : S46)])) else (none)) else (some (x201000, bt212.2.1, bt212.2.2)))
end
def spec_l1Cur_puzzle.f (k : Nat) (s0_0 : List Int) (s0_1 : Int) (s0_2 : Int) : Option ((List (S46)) × Int × Int) := (spec_l1Cur_surePuzzle.f k s0_0 s0_1 s0_2 5).bind fun bt195 => ((spec_l1Cur_pick.f s0_0 bt195.2.1 bt195.2.2 12).bind fun bt201 => (if bt201.1 = 0 then (spec_l1Cur_puzzle.j0 k bt201.1 (bt201.1 == 0) s0_0 bt201.2.1 bt201.2.2 bt195.1) else (if bt201.1 = 1 then (spec_l1Cur_puzzle.j0 k bt201.1 (bt201.1 == 1) s0_0 bt201.2.1 bt201.2.2 bt195.1) else (spec_l1Cur_puzzle.j0 k bt201.1 (bt201.1 == 2) s0_0 bt201.2.1 bt201.2.2 bt195.1))))
theorem spec_l1Cur_puzzle.mono_l : ∀ k, (∀ y0 y1 y2 y3 y4 y5, LeO (spec_l1Cur_puzzle.j0 k y0 y1 y2 y3 y4 y5) (spec_l1Cur_puzzle.j0 (k + 1) y0 y1 y2 y3 y4 y5)) ∧ (∀ y0 y1 y2 y3, LeO (spec_l1Cur_puzzle.l0 k y0 y1 y2 y3) (spec_l1Cur_puzzle.l0 (k + 1) y0 y1 y2 y3))
 | 0 => ⟨fun _ _ _ _ _ _ r h => by simp [spec_l1Cur_puzzle.j0] at h, fun _ _ _ _ r h => by simp [spec_l1Cur_puzzle.l0] at h⟩
 | k + 1 => by
  obtain ⟨ih0, ih1⟩ := spec_l1Cur_puzzle.mono_l k
  refine ⟨?_, ?_⟩
  · intro y0 y1 y2 y3 y4 y5
    unfold spec_l1Cur_puzzle.j0
    have m1_ := @ih0
    have m2_ := @ih1
    have m3_ := @spec_l1Cur_clue.mono
    have m4_ := @spec_l1Cur_surePuzzle.mono
    exact zM_
  intro y0 y1 y2 y3
  unfold spec_l1Cur_puzzle.l0
  have m1_ := @ih0
  have m2_ := @ih1
  have m3_ := @spec_l1Cur_clue.mono
  have m4_ := @spec_l1Cur_surePuzzle.mono
  exact zM_
theorem spec_l1Cur_puzzle.mono : ∀ a0 a1 a2 k, LeO (spec_l1Cur_puzzle.f k a0 a1 a2) (spec_l1Cur_puzzle.f (k + 1) a0 a1 a2) := by
 intro a0 a1 a2 k
 obtain ⟨ih0, ih1⟩ := spec_l1Cur_puzzle.mono_l k
 unfold spec_l1Cur_puzzle.f
 have m1_ := @ih0
 have m2_ := @ih1
 have m3_ := @spec_l1Cur_clue.mono
 have m4_ := @spec_l1Cur_surePuzzle.mono
 exact zM_
def spec_l1Cur_puzzle.T6 : Bool × List (List Nat × List Nat) := (true, [([], []), ([0], [0]), ([], []), ([2], [2]), ([3], [3]), ([1, 4, 3], [1, 4]), ([0, 1, 2, 3, 4, 5], []), ([6, 5, 5, 0, 1, 2, 3, 4, 5], [5, 6])])
def spec_l1Cur_puzzle.B6 : List Nat := [0, 1, 0, 4, 12, 31, 63, 127]
theorem spec_l1Cur_puzzle.tab6 : rtab .any (opsOf Tryz.f59 6) = spec_l1Cur_puzzle.T6 := by kernel_rfl
theorem spec_l1Cur_puzzle.bits6 : waitsOk spec_l1Cur_puzzle.T6.2 spec_l1Cur_puzzle.B6 = true := by kernel_rfl
theorem spec_l1Cur_puzzle.calls (k : Nat) (g : Nat) (s0_0 : List Int) (s0_1 : Int) (s0_2 : Int) (r1 : List (S46)) (r2 : Int) (r3 : Int) (w0 w : World) (hI : IsS68 w0 w g s0_0 s0_1 s0_2) (hB : Below w0.heap.size w0 w) (h : spec_l1Cur_puzzle.f k s0_0 s0_1 s0_2 = some (r1, r2, r3)) :
 Calls Tryz.prog 59 #[.pointer (some ⟨g, 0, none⟩)] w fun e w' => ∃ v0_ : Value, e = .returned (.agg #[v0_]) ∧ Kd.R k46 46 w' w.heap.size (fun _ => True) v0_ r1 ∧ IsS68 w0 w' g s0_0 r2 r3 ∧ Below w0.heap.size w0 w' ∧ KeepBut w w' g none := by
 have hu26 := Tryz.underlying26
 have hu46 := Tryz.underlying46
 have HI0 := Aside0.mk hI
 have HK := Aside0.mk (KeepBut.refl w g none)
 have HL := Aside0.mk hB.size
 clear hI
 have HW0 := Aside0.mk hB.size
 have HB := Aside0.mk hB
 clear hB
 unfold spec_l1Cur_puzzle.f at h
 have H := h
 clear h
 replace H := bd_ H; obtain ⟨⟨t195, t198, t199⟩, A2, H⟩ := H
 dsimp only at H
 replace H := bd_ H; obtain ⟨⟨t201, t202, t203⟩, A3, H⟩ := H
 dsimp only at H
 have HC4 := Aside0.mk H
 clear H
 go_enter Tryz.func59, Tryz.ntmps59
 go_upto_if 8 with (first | (refine bx_ 2 #[.slice none 0 0] 26 ?_; intro gb194 hg w5 hbox hb; replace HB := Aside0.mk (below_step (by repeat (first | (with_reducible first | exact HB.out | apply below_alloc | apply pw_below_drewN | apply below_drew1 | refine below_set ?_ (IsS68.ge HI0.out)) | exact HB.out)) hb); have BK194 := Aside0.mk (hbox); have GW194 := Aside0.mk ((by rw [hg]; exact (keep_size (w := w) (g := g) (row := none) z6_11_) : w.heap.size ≤ gb194)); have GE194 := Aside0.mk ((Nat.le_trans HW0.out (by rw [hg]; exact (keep_size (w := w) (g := g) (row := none) z6_11_) : w.heap.size ≤ gb194) : w0.heap.size ≤ gb194)); replace HK := Aside0.mk (KeepBut.trans z6_11_ (KeepBut.of_below hb g none) (.inl rfl)); have NB0_194 := Aside0.mk ((by rw [hg]; exact Nat.ne_of_lt (IsS68.lt (show IsS68 w0 _ g s0_0 s0_1 s0_2 from by repeat (first | (with_reducible first | exact HI0.out | apply IsS68.alloc | apply IsS68.drewN | apply IsS68.drew | apply IsS68.set_1 | apply IsS68.set_2) | exact HI0.out))) : g ≠ gb194)); have NB194_0 := Aside0.mk ((by rw [hg]; exact Nat.ne_of_gt (IsS68.lt (show IsS68 w0 _ g s0_0 s0_1 s0_2 from by repeat (first | (with_reducible first | exact HI0.out | apply IsS68.alloc | apply IsS68.drewN | apply IsS68.drew | apply IsS68.set_1 | apply IsS68.set_2) | exact HI0.out))) : gb194 ≠ g)); replace HI0 := Aside0.mk (IsS68.below zq6_0_ hb); clear hb hbox hg) | ((with_reducible refine gc_ 55 rfl ?_); refine gL_ 5 Tryz.func55 #[.pointer (some ⟨g, 0, none⟩), .int .i64 5] ?_; (with_reducible refine (spec_l1Cur_surePuzzle.calls k g s0_0 s0_1 s0_2 5 t195 t198 t199 w0 _ ?side1 ?side2 A2.out).mono ?_); (case side1 => repeat (first | (with_reducible first | exact HI0.out | apply IsS68.alloc | apply IsS68.drewN | apply IsS68.drew | apply IsS68.set_1 | apply IsS68.set_2 | refine IsS68.far ?_ NB0_194.out _) | exact HI0.out)); (case side2 => repeat (first | (with_reducible first | exact HB.out | apply below_alloc | apply pw_below_drewN | apply below_drew1 | refine below_set ?_ (IsS68.ge HI0.out) | refine below_set ?_ GE194.out) | exact HB.out)); rintro e w6 ⟨v196, rfl, ho0, hi, hb, hk⟩; refine ⟨_, rfl, ?_⟩; replace BK194 := Aside0.mk (KeepBut.blk hk (g' := gb194) (o := .cells #[.slice none 0 0] 26 (0, 0)) z6_1_ NB194_0.out (by simp)); have HO197 := Aside0.mk (Kd.R_lower ho0 (keep_size (w := w) (g := g) (row := none) z6_3_)); replace HK := Aside0.mk (KeepBut.trans z6_3_ hk (.inl rfl)); replace HB := Aside0.mk (hb); replace HI0 := Aside0.mk (hi)) | (refine bx_ 3 #[.slice none 0 0] 26 ?_; intro gb200 hg w7 hbox hb; replace HO197 := Aside0.mk (Kd.R_below (rr_ HO197.out) hb); replace HB := Aside0.mk (below_step (by repeat (first | (with_reducible first | exact HB.out | apply below_alloc | apply pw_below_drewN | apply below_drew1 | refine below_set ?_ (IsS68.ge HI0.out) | refine below_set ?_ GE194.out) | exact HB.out)) hb); have BK200 := Aside0.mk (hbox); have GW200 := Aside0.mk ((by rw [hg]; exact (keep_size (w := w) (g := g) (row := none) z6_3_) : w.heap.size ≤ gb200)); have GE200 := Aside0.mk ((Nat.le_trans HW0.out (by rw [hg]; exact (keep_size (w := w) (g := g) (row := none) z6_3_) : w.heap.size ≤ gb200) : w0.heap.size ≤ gb200)); replace HK := Aside0.mk (KeepBut.trans z6_3_ (KeepBut.of_below hb g none) (.inl rfl)); have NB194_200 := nl_ BK194 z6_1_ hg; have NB200_194 := ns_ NB194_200; replace BK194 := bb_ BK194 z6_1_ hb; have NB0_200 := Aside0.mk ((by rw [hg]; exact Nat.ne_of_lt (IsS68.lt (show IsS68 w0 _ g s0_0 t198 t199 from by repeat (first | (with_reducible first | exact HI0.out | apply IsS68.alloc | apply IsS68.drewN | apply IsS68.drew | apply IsS68.set_1 | apply IsS68.set_2 | refine IsS68.far ?_ NB0_194.out _) | exact HI0.out))) : g ≠ gb200)); have NB200_0 := Aside0.mk ((by rw [hg]; exact Nat.ne_of_gt (IsS68.lt (show IsS68 w0 _ g s0_0 t198 t199 from by repeat (first | (with_reducible first | exact HI0.out | apply IsS68.alloc | apply IsS68.drewN | apply IsS68.drew | apply IsS68.set_1 | apply IsS68.set_2 | refine IsS68.far ?_ NB0_194.out _) | exact HI0.out))) : gb200 ≠ g)); replace HI0 := Aside0.mk (IsS68.below (by repeat (first | (with_reducible first | exact HI0.out | apply IsS68.alloc | apply IsS68.drewN | apply IsS68.drew | apply IsS68.set_1 | apply IsS68.set_2 | refine IsS68.far ?_ NB0_194.out _) | exact HI0.out)) hb); clear hb hbox hg; obtain ⟨Ao8, co8, eo8⟩ := Kd.R_slice HO197.out; subst eo8; have hnb9 := NB200_194.out; have hnc9 := NB194_200.out; have hnb10 := NB200_0.out; have hnc10 := NB0_200.out; have hcz11_0 : w7.cell? ⟨gb200, 0, none⟩ = some (.slice none 0 0) := (blk_cell BK200.out 0).trans rfl; have hfz11_0 := blk_frozen BK200.out 0) | ((with_reducible refine gc_ 76 rfl ?_); refine gL_ 7 Tryz.func76 #[.pointer (some ⟨g, 0, none⟩), .int .i64 12] ?_; (with_reducible refine (spec_l1Cur_pick.calls g s0_0 t198 t199 12 t201 t202 t203 w0 _ ?side1 ?side2 A3.out).mono ?_); (case side1 => exact zc6_1_); (case side2 => exact zc6_3_); rintro e w12 ⟨rfl, hi, hb, hk⟩; refine ⟨_, rfl, ?_⟩; replace BK194 := Aside0.mk (KeepBut.blk hk (g' := gb194) (o := .cells #[.slice none 0 0] 26 (0, 0)) (by refine b_ ?_; refine blk_far ?_ NB194_200.out _; exact b_ BK194.out) NB194_0.out (by simp)); replace HO197 := Aside0.mk (Kd.R_mono (Kd.R_keep (IsS68.apart (show IsS68 w0 _ g s0_0 t198 t199 from by repeat (first | (with_reducible first | exact HI0.out | apply IsS68.alloc | apply IsS68.drewN | apply IsS68.drew | apply IsS68.set_1 | apply IsS68.set_2 | refine IsS68.far ?_ NB0_194.out _ | refine IsS68.far ?_ NB0_200.out _) | exact HI0.out)) (by refine rr_ ?_; exact (Kd.R_mono (Kd.R_far (p := ⟨gb200, 0, none⟩) (Kd.R_types HO197.out BK200.out (by decide)) (fun _ hk => hk.2) (.slice Ao8 t195.length co8)) (fun _ h_ => h_.1))) (by decide)) hk (fun _ h => h.2)) (fun _ h => h.1)); replace BK200 := Aside0.mk (KeepBut.blk hk (g' := gb200) (o := .cells #[.slice Ao8 t195.length co8] 26 (0, 0)) (by refine b_ ?_; refine blk_put (cs := #[.slice none 0 0]) ?_ 0 _ rfl; exact b_ BK200.out) NB200_0.out (by simp)); replace HK := Aside0.mk (KeepBut.trans z6_0_ hk (.inl rfl)); replace HB := Aside0.mk (hb); replace HI0 := Aside0.mk (hi)))
 (try simp only [Act.put, List.setIfInBounds_toArray, List.set_cons_zero, List.set_cons_succ])
 go_cut [8] (fun v8 wc => ∃ (kq : Nat) (x8_3 : Bool), v8 = .bool x8_3 ∧ Aside0 (spec_l1Cur_puzzle.j0 kq t201 x8_3 s0_0 t202 t203 t195 = some (r1, r2, r3)) ∧ Aside0 (kq ≤ k) ∧ Aside0 (Kd.R k46 46 wc w.heap.size (fun _ => True) (.slice Ao8 t195.length co8) t195) ∧ Aside0 (wc.heap[gb194]? = some (.cells #[(.slice none 0 0)] 26 (0, 0))) ∧ Aside0 (wc.heap[gb200]? = some (.cells #[(.slice Ao8 t195.length co8)] 26 (0, 0))) ∧ Aside0 (IsS68 w0 wc g s0_0 t202 t203) ∧ Aside0 (KeepBut w wc g none) ∧ Aside0 (Below w0.heap.size w0 wc))
 case first =>
  have H := HC4.out
  clear HC4
  by_cases c13 : t201 = 0
  · obtain ⟨H, c13b0, c13b1⟩ := ep_ c13 H
    clear c13
    (first | rw [c13b0] | (simp only [i64_w, i32_w]; rw [c13b0]) | skip)
    have H' := Aside0.mk H
    clear H
    go_wp2
    go_meet
    case rel => exact ⟨_, ((t201 == 0)), zV_, H', ⟨zs6_8⟩, ⟨rr_ HO197.out⟩, ⟨b_ BK194.out⟩, ⟨b_ BK200.out⟩, ⟨zs6_27⟩, ⟨zs6_28⟩, ⟨zs6_29⟩⟩
  obtain ⟨H, c13b0, c13b1⟩ := en_ c13 H
  (first | rw [c13b0] | (simp only [i64_w, i32_w]; rw [c13b0]) | skip)
  by_cases c14 : t201 = 1
  · obtain ⟨H, c14b0, c14b1⟩ := ep_ c14 H
    clear c14
    have H' := Aside0.mk H
    clear H
    go_wp2
    go_meet
    case rel => exact ⟨_, ((t201 == 1)), zV_, H', ⟨zs6_8⟩, ⟨rr_ HO197.out⟩, ⟨b_ BK194.out⟩, ⟨b_ BK200.out⟩, ⟨zs6_27⟩, ⟨zs6_28⟩, ⟨zs6_29⟩⟩
  obtain ⟨H, c14b0, c14b1⟩ := en_ c14 H
  have H' := Aside0.mk H
  clear H
  go_wp2
  go_meet
  case rel => exact ⟨_, ((t201 == 2)), zV_, H', ⟨zs6_8⟩, ⟨rr_ HO197.out⟩, ⟨b_ BK194.out⟩, ⟨b_ BK200.out⟩, ⟨zs6_27⟩, ⟨zs6_28⟩, ⟨zs6_29⟩⟩
 case rest =>
  clear HC4
  obtain ⟨kq, x8_3, rfl, HA, HJ3, HO_201000, BK194, BK200, HI0, HK, HB⟩ := hcut
  cases kq with
  | zero => exact absurd HA.out (by simp [spec_l1Cur_puzzle.j0])
  | succ kj3 =>
   have H := HA.out
   clear HA
   simp only [spec_l1Cur_puzzle.j0] at H
   by_cases c15 : x8_3 = true
   · subst c15
     rw [if_pos rfl] at H
     replace H := bd_ H; obtain ⟨⟨t204, t205, t206, t207, t208⟩, A16, H⟩ := H
     dsimp only at H
     replace H := gd_ H; obtain ⟨c17, H⟩ := H
     have LMc17 := Aside0.mk c17
     clear c17
     obtain ⟨y209, hy209⟩ : ∃ y_ : List (S46), y_ = (t195 ++ [(⟨t204, t205, t206⟩ : S46)]) := ⟨_, rfl⟩
     replace H : (some (y209, t207, t208)) = some (r1, r2, r3) := by first | (rw [hy209]; with_reducible exact H) | (have H2_ := (Option.bind_some _ _).symm.trans H; rw [hy209]; with_reducible exact H2_) | (have H2_ := (Option.bind_some _ _).symm.trans H; with_reducible exact H2_) | with_reducible exact H | (rw [hy209]; exact H) | exact H
     have Ny209 := Aside0.mk hy209
     clear hy209
     simp only [Option.some.injEq, Prod.mk.injEq] at H
     obtain ⟨rfl, rfl, rfl⟩ := H
     try go_wp2
     replace HO_201000 := Aside0.mk (Kd.R_drew HO_201000.out)
     replace BK194 := Aside0.mk (blk_drew BK194.out)
     replace BK200 := Aside0.mk (blk_drew BK200.out)
     replace HI0 := Aside0.mk (IsS68.drew HI0.out)
     replace HK := Aside0.mk (keep_drew HK.out)
     replace HB := Aside0.mk (below_drew1 HB.out)
     refine start_ (n := 8) (S := fun w' => w'.cell? ⟨gb200, 0, none⟩ = some (.slice Ao8 t195.length co8)) (ds := [7]) #[false, false, false, false, false, false, false, false] (by kernel_rfl) rfl rfl ((blk_cell BK200.out 0).trans rfl) (fun hHeld => ?_); refine with_tabW spec_l1Cur_puzzle.tab6 spec_l1Cur_puzzle.bits6 (fun HT_ HW_ => ?_)
     generalize wc.drew = w18 at HO_201000 BK194 BK200 HI0 HK HB hHeld ⊢
     refine pq_ 0 12 ?_
     refine pq_ 2 14 ?_
     refine take_ (i := 1) (N := some 13) (v := ?_) (a' := ?_) #[true, true, true, false, false, false, false, false] rfl rfl (take_ofW HT_.out HW_.out (by kernel_rfl)) (fun _ _ _ h => h) (Or.inl ⟨by rfl, ?_⟩) hHeld ?_ ?_
     rotate_left
     · intro w' s0
       go_simp
       with_reducible rfl
     rotate_left
     · simp only [Act.put, List.setIfInBounds_toArray, List.set_cons_zero, List.set_cons_succ, i64_w, i32_w]
       rfl
     refine one_ (i := 3) (N := some 15) #[true, true, true, true, false, false, false, false] rfl rfl (one_of HT_.out (by kernel_rfl)) (by decide) (fun K hK => ?_)
     refine goes_ Tryz.func79 (by kernel_rfl) rfl #[.pointer (some ⟨g, 0, none⟩)] (by rfl) rfl rfl z6_2_ ?_
     with_reducible refine (spec_l1Cur_clue.calls kj3 g s0_0 t202 t203 t204 t205 t206 t207 t208 w0 _ ?side1 ?side2 A16.out).mono ?_
     (case side1 => exact zc6_1_)
     (case side2 => exact zc6_3_)
     rintro e w19 ⟨rfl, hi, hb, hk⟩
     refine ⟨_, rfl, ?_⟩
     replace HO_201000 := Aside0.mk (Kd.R_mono (Kd.R_keep (IsS68.apart (show IsS68 w0 _ g s0_0 t202 t203 from by repeat (first | (with_reducible first | exact HI0.out | apply IsS68.alloc | apply IsS68.drewN | apply IsS68.drew | apply IsS68.set_1 | apply IsS68.set_2 | refine IsS68.far ?_ NB0_194.out _ | refine IsS68.far ?_ NB0_200.out _) | exact HI0.out)) z6_6_ (by decide)) hk (fun _ h => h.2)) (fun _ h => h.1))
     replace BK194 := Aside0.mk (KeepBut.blk hk (g' := gb194) (o := .cells #[.slice none 0 0] 26 (0, 0)) z6_1_ NB194_0.out (by simp))
     replace BK200 := Aside0.mk (KeepBut.blk hk (g' := gb200) (o := .cells #[.slice Ao8 t195.length co8] 26 (0, 0)) z6_5_ NB200_0.out (by simp))
     replace HK := Aside0.mk (KeepBut.trans z6_0_ hk (.inl rfl))
     replace HB := Aside0.mk (hb)
     replace HI0 := Aside0.mk (hi)
     
     
     
     
     refine hK.out _ _ ((blk_cell BK200.out 0).trans rfl) (fun hHeld => ?_)
     clear hK K
     refine norm_ (a' := ?_) ?_ ?_
     rotate_left
     · show Act.put _ (some 15) _ = _
       simp only [Act.put, List.setIfInBounds_toArray, List.set_cons_zero, List.set_cons_succ, i64_w, i32_w]
       rfl
     refine one_ (i := 4) (N := some 16) #[true, true, true, true, true, false, false, false] rfl rfl (one_of HT_.out (by kernel_rfl)) (by decide) (fun K hK => ?_)
     refine value_ (w1 := ?_) (v := ?_) (by rfl) rfl ?_ ?_
     rotate_left 2
     · go_simp
       constructor
       · rfl
       rfl
     refine hK.out _ _ ((blk_cell (blk_alloc BK200.out _) 0).trans rfl) (fun hHeld => ?_)
     clear hK K
     refine norm_ (a' := ?_) ?_ ?_
     rotate_left
     · show Act.put _ (some 16) _ = _
       simp only [Act.put, List.setIfInBounds_toArray, List.set_cons_zero, List.set_cons_succ, i64_w, i32_w]
       rfl
     refine one_ (i := 5) (N := some 17) #[true, true, true, true, true, true, false, false] rfl rfl (one_of HT_.out (by kernel_rfl)) (by decide) (fun K hK => ?_)
     refine Kd.R_append_step k46 w.heap.size (by rfl) (.tmp 13) (.tmp 16) 24 46 (.agg #[(.int .i64 0), (.int .i64 0), (.int .i64 0)]) 24 rfl Tryz.underlying24 info46 rfl (by decide) (by omega) (.slice Ao8 t195.length co8) t195 (⟨t204, t205, t206⟩ : S46) [.int .i64 t204, .int .i64 t205, .int .i64 t206] (fun _ => True) (fun _ => False) rfl rfl ?aP (fun _ hk => hk.elim) ?aF ?aO (Below.refl _ _) ?aS ?aL ?_
     (case aP => exact k46_mkM _ _ _ (⟨t204, t205, t206⟩ : S46))
     (case aF => exact (fun _ _ => trivial))
     (case aO => exact z6_6_)
     (case aS => exact (keep_size (w := w) (g := g) (row := none) z6_0_))
     (case aL => have := LMc17.out; omega)
     intro v210 w20 ho hb hg hat
     rw [← Ny209.out] at ho
     replace BK194 := Aside0.mk (blk_grown (g := gb194) (o := .cells #[.slice none 0 0] 26 (0, 0)) z6_1_ hg (Kd.R_ne HO_201000.out BK194.out (by decide)))
     replace BK200 := Aside0.mk (blk_grown (g := gb200) (o := .cells #[.slice Ao8 t195.length co8] 26 (0, 0)) z6_5_ hg (Kd.R_ne HO_201000.out BK200.out (by decide)))
     replace HB := Aside0.mk (below_weaken z6_10_ HL.out hb)
     replace HI0 := Aside0.mk (IsS68.grown z6_8_ hg (IsS68.own_ne HI0.out HO_201000.out (by decide)))
     replace HK := Aside0.mk (KeepBut.trans z6_0_ (KeepBut.of_grown hg g) (Kd.R_base2 HO_201000.out))
     have HO211 := Aside0.mk (ho)
     clear HO_201000
     clear ho hb hg hat
     obtain ⟨Ao21, co21, eo21⟩ := Kd.R_slice HO211.out
     (first | subst eo21 | (injection eo21 with f1_ f2_ f3_; have f4_ := f1_.symm; have f5_ := f3_.symm; clear f1_ f2_ f3_; subst f4_; subst f5_))
     refine hK.out _ _ ((blk_cell BK200.out 0).trans rfl) (fun hHeld => ?_)
     clear hK K
     refine norm_ (a' := ?_) ?_ ?_
     rotate_left
     · show Act.put _ (some 17) _ = _
       simp only [Act.put, List.setIfInBounds_toArray, List.set_cons_zero, List.set_cons_succ, i64_w, i32_w]
       rfl
     refine pq_ 6 18 ?_
     refine last_ (i := 7) (N := none) #[true, true, true, true, true, true, true, true] rfl rfl (one_of HT_.out (by kernel_rfl)) (by decide) (fun K hK => ?_)
     have hs22 : w20.cell? ⟨gb200, 0, none⟩ = some (.slice Ao8 t195.length co8) := (blk_cell BK200.out 0).trans rfl
     have hfs22 := blk_frozen BK200.out 0
     have hns22_0 := NB194_200.out
     have hms22_0 := NB200_194.out
     refine skip_ (w1 := ?_) (by rfl) rfl ?_ ?_
     rotate_left
     · go_simp
       rfl
     refine hK.out _ _ ?_
     clear hK K
     refine done_ (done_of HT_.out (by kernel_rfl)) ?_
     have hnb23 := NB200_194.out
     have hnc23 := NB194_200.out
     have hnb24 := NB200_0.out
     have hnc24 := NB0_200.out
     have hcz25_0 : w20.cell? ⟨gb200, 0, none⟩ = some (.slice Ao8 t195.length co8) := (blk_cell BK200.out 0).trans rfl
     have hfz25_0 := blk_frozen BK200.out 0
     have hnb26 := NB194_0.out
     have hnc26 := NB0_194.out
     have hcz27_0 : w20.cell? ⟨gb194, 0, none⟩ = some (.slice none 0 0) := (blk_cell BK194.out 0).trans rfl
     have hfz27_0 := blk_frozen BK194.out 0
     try go_wp2
     refine bodyPost_ret (results_cell_row rfl _ _ gb194 26 #[.slice Ao21 y209.length co21] (0, 0) _ rfl (by refine b_ ?_; refine blk_put (cs := #[.slice none 0 0]) ?_ 0 _ rfl; refine b_ ?_; refine blk_far ?_ NB194_200.out _; exact b_ BK194.out) Tryz.underlying26 rfl (by kernel_rfl)) rfl ?_
     exact ⟨_, zs6_10, by refine rr_ ?_; exact Kd.R_mono (Kd.R_far (p := ⟨gb194, 0, none⟩) (Kd.R_far (p := ⟨gb200, 0, none⟩) (Kd.R_types (Kd.R_types HO211.out BK200.out (by decide)) BK194.out (by decide)) (fun _ hk => hk.1.2) (.slice Ao21 y209.length co21)) (fun _ hk => hk.2) (.slice Ao21 y209.length co21)) (fun _ hk => trivial), zs6_27, zs6_29, zs6_28⟩
   replace H := bf_ c15 H; obtain ⟨rfl, H⟩ := H
   by_cases c28 : t201 = 3
   · obtain ⟨H, c28b0, c28b1⟩ := ep_ c28 H
     clear c28
     have H' := Aside0.mk H
     clear H
     go_wp2
     go_loopg [] kj3 (fun kq w' => ∃ (x1001_2 : Int) (x1002_2 : Int) (x201000_2 : List (S46)) (u201000 : Value), Aside0 (spec_l1Cur_puzzle.l0 kq s0_0 x1001_2 x1002_2 x201000_2 = some (r1, r2, r3)) ∧ Aside0 (kq ≤ kj3) ∧ Aside0 (Kd.R k46 46 w' w.heap.size (fun _ => True) u201000 x201000_2) ∧ Aside0 (w'.heap[gb194]? = some (.cells #[(.slice none 0 0)] 26 (0, 0))) ∧ Aside0 (w'.heap[gb200]? = some (.cells #[u201000] 26 (0, 0))) ∧ Aside0 (IsS68 w0 w' g s0_0 x1001_2 x1002_2) ∧ Aside0 (KeepBut w w' g none) ∧ Aside0 (Below w0.heap.size w0 w'))
     case atStart => exact ⟨(t202), (t203), (t195), (.slice Ao8 t195.length co8), H', ⟨Nat.le_refl _⟩, ⟨rr_ HO_201000.out⟩, ⟨b_ BK194.out⟩, ⟨b_ BK200.out⟩, ⟨zs6_27⟩, ⟨zs6_28⟩, ⟨zs6_29⟩⟩
     case round =>
      clear H'
      obtain ⟨x1001_2, x1002_2, x201000_2, u201000, HA, HK2, HO_201000, BK194, BK200, HI0, HK, HB⟩ := hrel
      cases gk with
      | zero => exact absurd HA.out (by simp [spec_l1Cur_puzzle.l0])
      | succ k2 =>
       have H := HA.out
       clear HA
       simp only [spec_l1Cur_puzzle.l0] at H
       replace H := bd_ H; obtain ⟨⟨t212, t213, t214⟩, A29, H⟩ := H
       dsimp only at H
       by_cases c30 : (x201000_2.length : Int) < (wrap64 (6 + t212))
       · rw [if_pos c30] at H
         have c30b0 := decide_eq_true c30
         clear c30
         replace H := gd_ H; obtain ⟨c31, H⟩ := H
         have LMc31 := Aside0.mk c31
         clear c31
         obtain ⟨y215, hy215⟩ : ∃ y_ : List (S46), y_ = (x201000_2 ++ [(⟨0, 0, 5⟩ : S46)]) := ⟨_, rfl⟩
         replace H : (spec_l1Cur_puzzle.l0 k2 s0_0 t213 t214 y215) = some (r1, r2, r3) := by first | (rw [hy215]; with_reducible exact H) | (have H2_ := (Option.bind_some _ _).symm.trans H; rw [hy215]; with_reducible exact H2_) | (have H2_ := (Option.bind_some _ _).symm.trans H; with_reducible exact H2_) | with_reducible exact H | (rw [hy215]; exact H) | exact H
         have Ny215 := Aside0.mk hy215
         clear hy215
         have H' := Aside0.mk H
         clear H
         try go_wp2
         replace HO_201000 := Aside0.mk (Kd.R_drew HO_201000.out)
         replace BK194 := Aside0.mk (blk_drew BK194.out)
         replace BK200 := Aside0.mk (blk_drew BK200.out)
         replace HI0 := Aside0.mk (IsS68.drew HI0.out)
         replace HK := Aside0.mk (keep_drew HK.out)
         replace HB := Aside0.mk (below_drew1 HB.out)
         obtain ⟨Ao33, co33, eo33⟩ := Kd.R_slice HO_201000.out
         (first | subst eo33 | (injection eo33 with f1_ f2_ f3_; have f4_ := f1_.symm; have f5_ := f3_.symm; clear f1_ f2_ f3_; subst f4_; subst f5_))
         refine start_ (n := 7) (S := fun w' => w'.cell? ⟨gb200, 0, none⟩ = some (.slice Ao33 x201000_2.length co33)) (ds := []) #[false, false, false, false, false, false, false] (by kernel_rfl) rfl rfl ((blk_cell BK200.out 0).trans rfl) (fun hHeld => ?_)
         generalize wr.drew = w32 at HO_201000 BK194 BK200 HI0 HK HB hHeld ⊢
         refine pq_ 0 21 ?_
         refine pq_ 3 24 ?_
         refine take_ (i := 1) (N := some 22) (v := ?_) (a' := ?_) #[true, true, false, true, false, false, false] rfl rfl (by kernel_rfl) (fun _ _ _ h => h) (Or.inl ⟨by rfl, ?_⟩) hHeld ?_ ?_
         rotate_left
         · intro w' s0
           go_simp
           with_reducible rfl
         rotate_left
         · simp only [Act.put, List.setIfInBounds_toArray, List.set_cons_zero, List.set_cons_succ, i64_w, i32_w]
           rfl
         refine pq_ 2 23 ?_
         refine one_ (i := 4) (N := some 25) #[true, true, true, true, true, false, false] rfl rfl (by kernel_rfl) (by decide) (fun K hK => ?_)
         refine goes_ Tryz.func76 (by kernel_rfl) rfl #[.pointer (some ⟨g, 0, none⟩), .int .i64 2] (by rfl) rfl rfl z6_2_ ?_
         with_reducible refine (spec_l1Cur_pick.calls g s0_0 x1001_2 x1002_2 2 t212 t213 t214 w0 _ ?side1 ?side2 A29.out).mono ?_
         (case side1 => exact zc6_1_)
         (case side2 => exact zc6_3_)
         rintro e w34 ⟨rfl, hi, hb, hk⟩
         refine ⟨_, rfl, ?_⟩
         replace HO_201000 := Aside0.mk (Kd.R_mono (Kd.R_keep (IsS68.apart (show IsS68 w0 _ g s0_0 x1001_2 x1002_2 from by repeat (first | (with_reducible first | exact HI0.out | apply IsS68.alloc | apply IsS68.drewN | apply IsS68.drew | apply IsS68.set_1 | apply IsS68.set_2 | refine IsS68.far ?_ NB0_194.out _ | refine IsS68.far ?_ NB0_200.out _) | exact HI0.out)) z6_6_ (by decide)) hk (fun _ h => h.2)) (fun _ h => h.1))
         replace BK194 := Aside0.mk (KeepBut.blk hk (g' := gb194) (o := .cells #[.slice none 0 0] 26 (0, 0)) z6_1_ NB194_0.out (by simp))
         replace BK200 := Aside0.mk (KeepBut.blk hk (g' := gb200) (o := .cells #[.slice Ao33 x201000_2.length co33] 26 (0, 0)) z6_5_ NB200_0.out (by simp))
         replace HK := Aside0.mk (KeepBut.trans z6_0_ hk (.inl rfl))
         replace HB := Aside0.mk (hb)
         replace HI0 := Aside0.mk (hi)
         
         
         
         
         refine hK.out _ _ ((blk_cell BK200.out 0).trans rfl) (fun hHeld => ?_)
         clear hK K
         refine norm_ (a' := ?_) ?_ ?_
         rotate_left
         · show Act.put _ (some 25) _ = _
           simp only [Act.put, List.setIfInBounds_toArray, List.set_cons_zero, List.set_cons_succ, i64_w, i32_w]
           rfl
         refine pq_ 5 26 ?_
         refine pq_ 6 27 ?_
         refine done_ (by kernel_rfl) ?_
         have hnb35 := NB200_194.out
         have hnc35 := NB194_200.out
         have hnb36 := NB200_0.out
         have hnc36 := NB0_200.out
         have hcz37_0 : w34.cell? ⟨gb200, 0, none⟩ = some (.slice Ao33 x201000_2.length co33) := (blk_cell BK200.out 0).trans rfl
         have hfz37_0 := blk_frozen BK200.out 0
         try go_wp2_with (first | ((with_reducible refine gate_builtin (b := .append) (xs := #[.tmp 29, .tmp 31]) rfl ?_); at_builtin; refine Kd.R_append k46 w.heap.size rfl (.tmp 29) (.tmp 31) 24 46 (.agg #[(.int .i64 0), (.int .i64 0), (.int .i64 0)]) 24 rfl Tryz.underlying24 info46 rfl (by decide) (by omega) (.slice Ao33 x201000_2.length co33) x201000_2 (⟨0, 0, 5⟩ : S46) [.int .i64 0, .int .i64 0, .int .i64 5] (fun _ => True) (fun _ => False) rfl rfl ?aP (fun _ hk => hk.elim) ?aF ?aO (Below.refl _ _) ?aS ?aL ?_; (case aP => exact k46_mkM _ _ _ (⟨0, 0, 5⟩ : S46)); (case aF => exact (fun _ _ => trivial)); (case aO => exact z6_6_); (case aS => exact (keep_size (w := w) (g := g) (row := none) z6_0_)); (case aL => have := LMc31.out; omega); intro v216 w38 ho hb hg hat; rw [← Ny215.out] at ho; replace BK194 := Aside0.mk (blk_grown (g := gb194) (o := .cells #[.slice none 0 0] 26 (0, 0)) z6_1_ hg (Kd.R_ne HO_201000.out BK194.out (by decide))); replace BK200 := Aside0.mk (blk_grown (g := gb200) (o := .cells #[.slice Ao33 x201000_2.length co33] 26 (0, 0)) z6_5_ hg (Kd.R_ne HO_201000.out BK200.out (by decide))); replace HB := Aside0.mk (below_weaken z6_10_ HL.out hb); replace HI0 := Aside0.mk (IsS68.grown z6_8_ hg (IsS68.own_ne HI0.out HO_201000.out (by decide))); replace HK := Aside0.mk (KeepBut.trans z6_0_ (KeepBut.of_grown hg g) (Kd.R_base2 HO_201000.out)); have HO217 := Aside0.mk (ho); clear HO_201000; clear ho hb hg hat; obtain ⟨Ao39, co39, eo39⟩ := Kd.R_slice HO217.out; subst eo39; have hcz40_0 : w38.cell? ⟨gb200, 0, none⟩ = some (.slice Ao33 x201000_2.length co33) := (blk_cell BK200.out 0).trans rfl; have hfz40_0 := blk_frozen BK200.out 0))
         go_roundg k2
         case measure => have := HJ3.out; have := HK2.out; omega
         case rel => exact ⟨(t213), (t214), (y215), (.slice Ao39 y215.length co39), H', ⟨by have := HJ3.out; have := HK2.out; omega⟩, ⟨by refine rr_ ?_; exact Kd.R_mono (Kd.R_far (p := ⟨gb200, 0, none⟩) (Kd.R_types HO217.out BK200.out (by decide)) (fun _ hk => hk.2) (.slice Ao39 y215.length co39)) (fun _ hk => trivial)⟩, ⟨by refine b_ ?_; refine blk_far ?_ NB194_200.out _; exact b_ BK194.out⟩, ⟨by refine b_ ?_; refine blk_put (cs := #[.slice Ao33 x201000_2.length co33]) ?_ 0 _ rfl; exact b_ BK200.out⟩, ⟨zs6_27⟩, ⟨zs6_28⟩, ⟨zs6_29⟩⟩
       rw [if_neg c30] at H
       have c30b0 := decide_eq_false c30
       clear c30
       simp only [Option.some.injEq, Prod.mk.injEq] at H
       obtain ⟨rfl, rfl, rfl⟩ := H
       try go_wp2
       replace HO_201000 := Aside0.mk (Kd.R_drew HO_201000.out)
       replace BK194 := Aside0.mk (blk_drew BK194.out)
       replace BK200 := Aside0.mk (blk_drew BK200.out)
       replace HI0 := Aside0.mk (IsS68.drew HI0.out)
       replace HK := Aside0.mk (keep_drew HK.out)
       replace HB := Aside0.mk (below_drew1 HB.out)
       obtain ⟨Ao42, co42, eo42⟩ := Kd.R_slice HO_201000.out
       (first | subst eo42 | (injection eo42 with f1_ f2_ f3_; have f4_ := f1_.symm; have f5_ := f3_.symm; clear f1_ f2_ f3_; subst f4_; subst f5_))
       refine start_ (n := 7) (S := fun w' => w'.cell? ⟨gb200, 0, none⟩ = some (.slice Ao42 x201000_2.length co42)) (ds := []) #[false, false, false, false, false, false, false] (by kernel_rfl) rfl rfl ((blk_cell BK200.out 0).trans rfl) (fun hHeld => ?_)
       generalize wr.drew = w41 at HO_201000 BK194 BK200 HI0 HK HB hHeld ⊢
       refine pq_ 0 21 ?_
       refine pq_ 3 24 ?_
       refine take_ (i := 1) (N := some 22) (v := ?_) (a' := ?_) #[true, true, false, true, false, false, false] rfl rfl (by kernel_rfl) (fun _ _ _ h => h) (Or.inl ⟨by rfl, ?_⟩) hHeld ?_ ?_
       rotate_left
       · intro w' s0
         go_simp
         with_reducible rfl
       rotate_left
       · simp only [Act.put, List.setIfInBounds_toArray, List.set_cons_zero, List.set_cons_succ, i64_w, i32_w]
         rfl
       refine pq_ 2 23 ?_
       refine one_ (i := 4) (N := some 25) #[true, true, true, true, true, false, false] rfl rfl (by kernel_rfl) (by decide) (fun K hK => ?_)
       refine goes_ Tryz.func76 (by kernel_rfl) rfl #[.pointer (some ⟨g, 0, none⟩), .int .i64 2] (by rfl) rfl rfl z6_2_ ?_
       with_reducible refine (spec_l1Cur_pick.calls g s0_0 x1001_2 x1002_2 2 t212 t213 t214 w0 _ ?side1 ?side2 A29.out).mono ?_
       (case side1 => exact zc6_1_)
       (case side2 => exact zc6_3_)
       rintro e w43 ⟨rfl, hi, hb, hk⟩
       refine ⟨_, rfl, ?_⟩
       replace HO_201000 := Aside0.mk (Kd.R_mono (Kd.R_keep (IsS68.apart (show IsS68 w0 _ g s0_0 x1001_2 x1002_2 from by repeat (first | (with_reducible first | exact HI0.out | apply IsS68.alloc | apply IsS68.drewN | apply IsS68.drew | apply IsS68.set_1 | apply IsS68.set_2 | refine IsS68.far ?_ NB0_194.out _ | refine IsS68.far ?_ NB0_200.out _) | exact HI0.out)) z6_6_ (by decide)) hk (fun _ h => h.2)) (fun _ h => h.1))
       replace BK194 := Aside0.mk (KeepBut.blk hk (g' := gb194) (o := .cells #[.slice none 0 0] 26 (0, 0)) z6_1_ NB194_0.out (by simp))
       replace BK200 := Aside0.mk (KeepBut.blk hk (g' := gb200) (o := .cells #[.slice Ao42 x201000_2.length co42] 26 (0, 0)) z6_5_ NB200_0.out (by simp))
       replace HK := Aside0.mk (KeepBut.trans z6_0_ hk (.inl rfl))
       replace HB := Aside0.mk (hb)
       replace HI0 := Aside0.mk (hi)
       
       
       
       
       refine hK.out _ _ ((blk_cell BK200.out 0).trans rfl) (fun hHeld => ?_)
       clear hK K
       refine norm_ (a' := ?_) ?_ ?_
       rotate_left
       · show Act.put _ (some 25) _ = _
         simp only [Act.put, List.setIfInBounds_toArray, List.set_cons_zero, List.set_cons_succ, i64_w, i32_w]
         rfl
       refine pq_ 5 26 ?_
       refine pq_ 6 27 ?_
       refine done_ (by kernel_rfl) ?_
       have hnb44 := NB200_194.out
       have hnc44 := NB194_200.out
       have hnb45 := NB200_0.out
       have hnc45 := NB0_200.out
       have hcz46_0 : w43.cell? ⟨gb200, 0, none⟩ = some (.slice Ao42 x201000_2.length co42) := (blk_cell BK200.out 0).trans rfl
       have hfz46_0 := blk_frozen BK200.out 0
       have hnb47 := NB194_0.out
       have hnc47 := NB0_194.out
       have hcz48_0 : w43.cell? ⟨gb194, 0, none⟩ = some (.slice none 0 0) := (blk_cell BK194.out 0).trans rfl
       have hfz48_0 := blk_frozen BK194.out 0
       try go_wp2
       refine bodyPost_ret (results_cell_row rfl _ _ gb194 26 #[.slice Ao42 x201000_2.length co42] (0, 0) _ rfl z6_7_ Tryz.underlying26 rfl (by kernel_rfl)) rfl ?_
       exact ⟨_, zs6_10, by refine rr_ ?_; exact Kd.R_mono (Kd.R_far (p := ⟨gb194, 0, none⟩) (Kd.R_types HO_201000.out BK194.out (by decide)) (fun _ hk => hk.2) (.slice Ao42 x201000_2.length co42)) (fun _ hk => trivial), zs6_27, zs6_29, zs6_28⟩
   obtain ⟨H, c28b0, c28b1⟩ := en_ c28 H
   simp only [Option.some.injEq, Prod.mk.injEq] at H
   obtain ⟨rfl, rfl, rfl⟩ := H
   have hnb49 := NB200_194.out
   have hnc49 := NB194_200.out
   have hnb50 := NB200_0.out
   have hnc50 := NB0_200.out
   have hcz51_0 : wc.cell? ⟨gb200, 0, none⟩ = some (.slice Ao8 t195.length co8) := (blk_cell BK200.out 0).trans rfl
   have hfz51_0 := blk_frozen BK200.out 0
   have hnb52 := NB194_0.out
   have hnc52 := NB0_194.out
   have hcz53_0 : wc.cell? ⟨gb194, 0, none⟩ = some (.slice none 0 0) := (blk_cell BK194.out 0).trans rfl
   have hfz53_0 := blk_frozen BK194.out 0
   go_wp2
   refine bodyPost_ret (results_cell_row rfl _ _ gb194 26 #[.slice Ao8 t195.length co8] (0, 0) _ rfl z6_7_ Tryz.underlying26 rfl (by kernel_rfl)) rfl ?_
   exact ⟨_, zs6_10, by refine rr_ ?_; exact Kd.R_mono (Kd.R_far (p := ⟨gb194, 0, none⟩) (Kd.R_types HO_201000.out BK194.out (by decide)) (fun _ hk => hk.2) (.slice Ao8 t195.length co8)) (fun _ hk => trivial), zs6_27, zs6_29, zs6_28⟩

/-! ### spec_DrawIsPuzzle: function 37 -/
def spec_DrawIsPuzzle.f (k : Nat) (l0 : List Int) : Option ((List (S46))) := (spec_l1Cur_puzzle.f k l0 0 0).bind fun bt220 => (some bt220.1)
theorem spec_DrawIsPuzzle.mono : ∀ a0 k, LeO (spec_DrawIsPuzzle.f k a0) (spec_DrawIsPuzzle.f (k + 1) a0) := by
 intro a0 k
 unfold spec_DrawIsPuzzle.f
 have m1_ := @spec_l1Cur_puzzle.mono
 exact zM_
theorem spec_DrawIsPuzzle.calls (k : Nat) (A0 : Option Addr) (c0 : Nat) (l0 : List Int) (r : List (S46)) (w : World) (hr0 : Kd.C (Kd.int .u8) w A0 l0.length l0) (hc0 : l0.length ≤ c0) (h : spec_DrawIsPuzzle.f k l0 = some r) :
 Calls Tryz.prog 37 #[.slice A0 l0.length c0] w fun e w' => ∃ v0_ : Value, e = .returned (.agg #[v0_]) ∧ Kd.R k46 46 w' w.heap.size (fun _ => True) v0_ r ∧ Below w.heap.size w w' := by
 have hu26 := Tryz.underlying26
 have hu68 := Tryz.underlying68
 have HR0 := Aside0.mk hr0
 have HC0 := Aside0.mk hc0
 clear hr0 hc0
 have HB := Aside0.mk (Below.refl w.heap.size w)
 unfold spec_DrawIsPuzzle.f at h
 have H := h
 clear h
 replace H := bd_ H; obtain ⟨⟨t220, t223, t224⟩, A2, H⟩ := H
 dsimp only at H
 obtain rfl := Option.some.inj H
 go_enter Tryz.func37, Tryz.ntmps37
 go_wp2_with (first | (refine bx_ 2 #[.slice none 0 0] 26 ?_; intro gb218 hg w3 hbox hb; have BK218 := Aside0.mk (hbox); have GW218 : Aside0 (w.heap.size ≤ gb218) := bs_ hg zB_; have GE218 := GW218; replace HB := Aside0.mk (below_step zB_ hb); clear hb hbox hg) | (refine bx_ 6 #[.slice A0 l0.length c0, .int .i64 0, .int .u64 0] 68 ?_; intro gb219 hg w4 hbox hb; have NB218_219 := nl_ BK218 z6_9_ hg; have NB219_218 := ns_ NB218_219; replace BK218 := bb_ BK218 z6_9_ hb; have HI219 := Aside0.mk ((⟨_, _, hbox, (by rw [hg]; exact (below_size (by repeat (first | (with_reducible first | exact HB.out | apply below_alloc | apply pw_below_drewN | apply below_drew1 | refine below_set ?_ GE218.out) | exact HB.out))) : w.heap.size ≤ gb219), HR0.out⟩ : IsS68 w w4 gb219 l0 0 0)); replace HB := Aside0.mk (below_step (by repeat (first | (with_reducible first | exact HB.out | apply below_alloc | apply pw_below_drewN | apply below_drew1 | refine below_set ?_ GE218.out) | exact HB.out)) hb); clear hb hbox hg) | ((with_reducible refine gc_ 59 rfl ?_); refine gL_ 8 Tryz.func59 #[.pointer (some ⟨gb219, 0, none⟩)] ?_; (with_reducible refine (spec_l1Cur_puzzle.calls k gb219 l0 0 0 t220 t223 t224 w _ ?side1 ?side2 A2.out).mono ?_); (case side1 => repeat (first | (with_reducible first | exact HI219.out | apply IsS68.alloc | apply IsS68.drewN | apply IsS68.drew | apply IsS68.set_1 | apply IsS68.set_2 | refine IsS68.far ?_ NB219_218.out _) | exact HI219.out)); (case side2 => repeat (first | (with_reducible first | exact HB.out | apply below_alloc | apply pw_below_drewN | apply below_drew1 | refine below_set ?_ (IsS68.ge HI219.out) | refine below_set ?_ GE218.out) | exact HB.out)); rintro e w5 ⟨v221, rfl, ho0, hi, hb, hk⟩; refine ⟨_, rfl, ?_⟩; replace BK218 := Aside0.mk (KeepBut.blk hk (g' := gb218) (o := .cells #[.slice none 0 0] 26 (0, 0)) z6_9_ NB218_219.out (by simp)); have HO222 := Aside0.mk (Kd.R_lower ho0 (below_size (by repeat (first | (with_reducible first | exact HB.out | apply below_alloc | apply pw_below_drewN | apply below_drew1 | refine below_set ?_ (IsS68.ge HI219.out) | refine below_set ?_ GE218.out) | exact HB.out)))); replace HB := Aside0.mk (hb); replace HI219 := Aside0.mk (hi); obtain ⟨Ao6, co6, eo6⟩ := Kd.R_slice HO222.out; subst eo6; have hnb7 := NB218_219.out; have hnc7 := NB219_218.out; have hcz8_0 : w5.cell? ⟨gb218, 0, none⟩ = some (.slice none 0 0) := (blk_cell BK218.out 0).trans rfl; have hfz8_0 := blk_frozen BK218.out 0))
 refine bodyPost_ret (results_cell_row rfl _ _ gb218 26 #[.slice Ao6 t220.length co6] (0, 0) _ rfl (by refine b_ ?_; refine blk_put (cs := #[.slice none 0 0]) ?_ 0 _ rfl; exact b_ BK218.out) Tryz.underlying26 rfl (by kernel_rfl)) rfl ?_
 exact ⟨_, zs6_10, by refine rr_ ?_; exact Kd.R_mono (Kd.R_far (p := ⟨gb218, 0, none⟩) (Kd.R_types HO222.out BK218.out (by decide)) (fun _ hk => hk.2) (.slice Ao6 t220.length co6)) (fun _ hk => trivial), by repeat (first | (with_reducible first | exact HB.out | apply below_alloc | apply pw_below_drewN | apply below_drew1 | refine below_set ?_ (IsS68.ge HI219.out) | refine below_set ?_ GE218.out) | exact HB.out)⟩

/-! ### spec_DrawSolutions: function 5 -/
def spec_DrawSolutions.f (k : Nat) (l0 : List Int) : Option ((List (S46))) := (spec_DrawIsPuzzle.f k l0).bind fun t226 => (some t226)
theorem spec_DrawSolutions.mono : ∀ a0 k, LeO (spec_DrawSolutions.f k a0) (spec_DrawSolutions.f (k + 1) a0) := by
 intro a0 k
 unfold spec_DrawSolutions.f
 have m1_ := @spec_DrawIsPuzzle.mono
 exact zM_
theorem spec_DrawSolutions.calls (k : Nat) (A0 : Option Addr) (c0 : Nat) (l0 : List Int) (r : List (S46)) (w : World) (hr0 : Kd.C (Kd.int .u8) w A0 l0.length l0) (hc0 : l0.length ≤ c0) (h : spec_DrawSolutions.f k l0 = some r) :
 Calls Tryz.prog 5 #[.slice A0 l0.length c0] w fun e w' => ∃ v0_ : Value, e = .returned (.agg #[v0_]) ∧ Kd.R k46 46 w' w.heap.size (fun _ => True) v0_ r ∧ Below w.heap.size w w' := by
 have hu26 := Tryz.underlying26
 have HR0 := Aside0.mk hr0
 have HC0 := Aside0.mk hc0
 clear hr0 hc0
 have HB := Aside0.mk (Below.refl w.heap.size w)
 unfold spec_DrawSolutions.f at h
 have H := h
 clear h
 replace H := bd_ H; obtain ⟨t226, A2, H⟩ := H
 obtain rfl := Option.some.inj H
 go_enter Tryz.func5, Tryz.ntmps5
 go_wp2_with (first | (refine bx_ 2 #[.slice none 0 0] 26 ?_; intro gb225 hg w3 hbox hb; have BK225 := Aside0.mk (hbox); have GW225 : Aside0 (w.heap.size ≤ gb225) := bs_ hg zB_; have GE225 := GW225; replace HB := Aside0.mk (below_step zB_ hb); clear hb hbox hg) | ((with_reducible refine gc_ 37 rfl ?_); refine gL_ 4 Tryz.func37 #[.slice A0 l0.length c0] ?_; (with_reducible refine (spec_DrawIsPuzzle.calls k _ _ l0 t226 _ ?side1 ?side2 A2.out).mono ?_); (case side1 => repeat (first | exact (Kd.C_below HR0.out HB.out) | (with_reducible refine Kd.C_alloc ?_ _) | (with_reducible refine Kd.C_drewN ?_ _) | (with_reducible refine Kd.C_drew ?_))); (case side2 => exact HC0.out); rintro e w4 ⟨v227, rfl, ho0, hb⟩; refine ⟨_, rfl, ?_⟩; have HO228 := Aside0.mk (Kd.R_lower ho0 (below_size (by repeat (first | (with_reducible first | exact HB.out | apply below_alloc | apply pw_below_drewN | apply below_drew1 | refine below_set ?_ GE225.out) | exact HB.out)))); replace BK225 := bb_ BK225 (b_ BK225.out) hb; replace HB := Aside0.mk (below_step (by repeat (first | (with_reducible first | exact HB.out | apply below_alloc | apply pw_below_drewN | apply below_drew1 | refine below_set ?_ GE225.out) | exact HB.out)) hb); obtain ⟨Ao5, co5, eo5⟩ := Kd.R_slice HO228.out; subst eo5; have hcz6_0 : w4.cell? ⟨gb225, 0, none⟩ = some (.slice none 0 0) := (blk_cell BK225.out 0).trans rfl; have hfz6_0 := blk_frozen BK225.out 0))
 refine bodyPost_ret (results_cell_row rfl _ _ gb225 26 #[.slice Ao5 t226.length co5] (0, 0) _ rfl (by refine b_ ?_; refine blk_put (cs := #[.slice none 0 0]) ?_ 0 _ rfl; exact b_ BK225.out) Tryz.underlying26 rfl (by kernel_rfl)) rfl ?_
 exact ⟨_, zs6_10, by refine rr_ ?_; exact Kd.R_mono (Kd.R_far (p := ⟨gb225, 0, none⟩) (Kd.R_types HO228.out BK225.out (by decide)) (fun _ hk => hk.2) (.slice Ao5 t226.length co5)) (fun _ hk => trivial), by repeat (first | (with_reducible first | exact HB.out | apply below_alloc | apply pw_below_drewN | apply below_drew1 | refine below_set ?_ GE225.out) | exact HB.out)⟩

-- NOT PRINTED: function 68 (impl_Clue_68)

-- NOT PRINTED: function 46 (impl_Clue_46)

/-! ### impl_within: function 52 -/
def impl_within.f (a0 : Int) (a1 : Int) (a2 : Int) : Option (Bool) := if a1 ≤ a0 then (some (decide (a0 ≤ a2))) else (some false)
theorem impl_within.calls (a0 : Int) (a1 : Int) (a2 : Int) (r : Bool) (w : World) (h : impl_within.f a0 a1 a2 = some r) :
 Calls Tryz.prog 52 #[.int .i64 a0, .int .i64 a1, .int .i64 a2] w fun e w' => e = .returned (.bool r) ∧ Drawn0 w w' := by
 unfold impl_within.f at h
 have H := h
 clear h
 by_cases c4 : a1 ≤ a0
 · rw [if_pos c4] at H
   have c4b0 := decide_eq_true c4
   clear c4
   obtain rfl := Option.some.inj H
   go_enter Tryz.func52, Tryz.ntmps52
   go_wp2
   go_ret
   exact ⟨zs6_1, zs6_2⟩
 rw [if_neg c4] at H
 have c4b0 := decide_eq_false c4
 clear c4
 obtain rfl := Option.some.inj H
 go_enter Tryz.func52, Tryz.ntmps52
 go_wp2
 go_ret
 exact ⟨zs6_1, zs6_2⟩

end Go.Proofs.YtmfbjhkhgkphcaaGreatDoor.PFnTicketsGuessed

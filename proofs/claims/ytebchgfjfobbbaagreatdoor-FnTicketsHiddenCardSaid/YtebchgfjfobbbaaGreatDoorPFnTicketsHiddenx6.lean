-- Laid by this session's program gprint.py over the kit's print.
import Derived.Test.YtebchgfjfobbbaaGreatDoorSq
import Derived.Test.YtebchgfjfobbbaaGreatDoorZip
import Derived.Test.YtebchgfjfobbbaaGreatDoorFn
import Derived.Test.YtebchgfjfobbbaaGreatDoorProg
import Derived.Below
import Derived.Deep.Draws
import Derived.Deep.AppendLies
import Derived.Maps.AppendAt
import Derived.OwnWalk
import Derived.Laws.BytesArg
import Derived.Laws.MakeOwn
import Derived.Laws.OwnMore
import Derived.Deep.OwnRows
import Derived.Tactics
import Derived.Lib.ConvBytes
import Derived.Laws.Slices
import Derived.WalkKit
import Derived.KernelRfl
import Derived.RowKit3
import Derived.Deep.LoopGhost
import Derived.Deep.QuietTactic
import Derived.BigQuiet
import Derived.WideLaws
import Derived.Deep.DeepCutAuto
import Derived.Deep.CutBlock
import Derived.Deep.RegionHeld3
import Derived.Laws.Rows
import Derived.Lib.AppendStr
import Derived.ArgAppend
import Derived.Laws.IdiomCopy
import Derived.OrdersHeld
import Derived.Laws.BitsLemmas
import Derived.RowKit
import Derived.Test.YtebchgfjfobbbaaGreatDoorShelf
import Derived.Test.YtebchgfjfobbbaaGreatDoorTrim
import Derived.Test.YtebchgfjfobbbaaGreatDoorWWords
import Derived.Test.YtebchgfjfobbbaaGreatDoorWLast
import Derived.Test.YtebchgfjfobbbaaGreatDoorWTab
import Derived.Test.YtebchgfjfobbbaaGreatDoorWFour
import Derived.Test.YtebchgfjfobbbaaGreatDoorWQPut
import Derived.Test.YtebchgfjfobbbaaGreatDoorWApart
import Derived.Test.YtebchgfjfobbbaaGreatDoorWArr
import Derived.Test.YtebchgfjfobbbaaGreatDoorWZeros
import Derived.Test.YtebchgfjfobbbaaGreatDoorWFoot
import Derived.Test.YtebchgfjfobbbaaGreatDoorWKept
import Derived.Test.YtebchgfjfobbbaaGreatDoorWShare
import Derived.Test.YtebchgfjfobbbaaGreatDoorWN
import Derived.Test.YtebchgfjfobbbaaGreatDoorWFootNe
import Derived.Test.YtebchgfjfobbbaaGreatDoorWAt
import Derived.Test.YtebchgfjfobbbaaGreatDoorWEqStruct
import Derived.Test.YtebchgfjfobbbaaGreatDoorWRepsOne
import Derived.Test.YtebchgfjfobbbaaGreatDoorWInv
import Derived.Test.YtebchgfjfobbbaaGreatDoorWInvWords
import Derived.Test.YtebchgfjfobbbaaGreatDoorWGuard
import Derived.Test.YtebchgfjfobbbaaGreatDoorWNEv
import Derived.Test.YtebchgfjfobbbaaGreatDoorWMore
namespace Go.Proofs.YtebchgfjfobbbaaGreatDoor.PFnTicketsHidden
open Go.RowKit Go.Proofs.YtebchgfjfobbbaaGreatDoorW.PrintWords Go.Proofs.YtebchgfjfobbbaaGreatDoorW.PrintLast Go.Proofs.YtebchgfjfobbbaaGreatDoorW.PrintMore
attribute [local go_sem] max2_int min2_int max_two min_two max_three min_three max_four min_four   -- for this text's walks alone
set_option linter.unusedVariables false
set_option linter.unusedSimpArgs false



theorem zq6_0_ {p : Prop} (h : p := by simp only [putAll, Act.put, List.setIfInBounds_toArray, List.set_cons_zero, List.set_cons_succ]) : p := h
theorem zq6_1_ {p : Prop} (h : p := by repeat (first | (with_reducible first | exact HI164.out | apply IsS74.alloc | apply IsS74.drewN | apply IsS74.drew | apply IsS74.set_1 | apply IsS74.set_2) | exact HI164.out)) : p := h
theorem zq6_2_ {p : Prop} (h : p := by (try simp only [List.map_toArray, List.map_cons, List.map_nil]); first | done | (simp only [hji8]; rfl) | rfl | (simp only [List.length_drop, List.length_take]; rfl)) : p := h
theorem zq6_3_ {p : Prop} (h : p := by exact rr_ HO153.out) : p := h
theorem zc6_0_ {p : Prop} (h : p := by repeat (first | (with_reducible first | exact HB.out | apply below_alloc | apply pw_below_drewN | apply below_drew1 | refine below_set ?_ (IsS74.ge HI164.out)) | exact HB.out)) : p := h
theorem zc6_1_ {p : Prop} (h : p := by repeat (first | (with_reducible first | exact HI164.out | apply IsS74.alloc | apply IsS74.drewN | apply IsS74.drew | apply IsS74.set_1 | apply IsS74.set_2) | exact HI164.out)) : p := h
theorem zc6_2_ {p : Prop} (h : p := by repeat (first | (with_reducible first | exact HB.out | apply below_alloc | apply pw_below_drewN | apply below_drew1 | refine below_set ?_ (IsS74.ge HI0.out)) | exact HB.out)) : p := h
theorem zc6_3_ {p : Prop} (h : p := by repeat (first | (with_reducible first | exact HI0.out | apply IsS74.alloc | apply IsS74.drewN | apply IsS74.drew | apply IsS74.set_1 | apply IsS74.set_2) | exact HI0.out)) : p := h
theorem zc6_4_ {p : Prop} (h : p := by exact (Reps.one (show Kd.M (Kd.int .u8) _ _ _ ((wrap64 (48 + (Int.tmod a0 10))) % 256) [.int .u8 ((wrap64 (48 + (Int.tmod a0 10))) % 256)] from rfl) (Reps.none _ _))) : p := h
theorem zc6_5_ {p : Prop} (h : p := by first | (go_simp; done) | (go_simp; rfl)) : p := h
def errW : Option Int → Value
 | none => .nilIface
 | some c => .iface 0 (.int .i64 c)
theorem errW_none : errW none = .nilIface := rfl
theorem errW_some (c : Int) : errW (some c) = .iface 0 (.int .i64 c) := rfl

theorem dead_ {r : Bool} {x : Option Bool} {P : Prop} (e : x = some false) (H : x = some r) (h : Aside0 (r = true)) : P := Bool.noConfusion ((Option.some.inj (e.symm.trans H)).trans h.out)
theorem none_ {α : Type} {r : α} {x : Option α} {P : Prop} (e : x = none) (H : x = some r) : P := by rw [e] at H; cases H
theorem lit_size_ (a : Array UInt8) : (⟨a⟩ : ByteArray).size = a.size := rfl
theorem info3 : (Tryz.prog.info? 3).map (fun i => (i.zero, i.size, i.bytes)) = some (some (.int .i64 0), 1, 8) := by kernel_rfl
theorem info5 : (Tryz.prog.info? 5).map (fun i => (i.zero, i.size, i.bytes)) = some (some (.int .u8 0), 1, 1) := by kernel_rfl
theorem info9 : (Tryz.prog.info? 9).map (fun i => (i.zero, i.size, i.bytes)) = some (some (.string ⟨#[]⟩), 1, 16) := by kernel_rfl
theorem info37 : (Tryz.prog.info? 37).map (fun i => (i.zero, i.size, i.bytes)) = some (some (.agg #[(.int .i64 0), (.int .i64 0), (.int .i64 0)]), 3, 24) := by kernel_rfl
-- the values' own types
/-! #### struct type 37 -/
structure S37 where
 f0 : Int
 f1 : Int
 f2 : Int
def z37 : S37 := ⟨(0 : Int), (0 : Int), (0 : Int)⟩
def k37 : Kd S37 := Kd.iso (Kd.pair (Kd.int .i64) (Kd.pair (Kd.int .i64) (Kd.int .i64))) (fun x : S37 => (x.f0, x.f1, x.f2))
theorem k37_open {w : World} {x : S37} {cs : List Value} (h : k37.K w x cs) : cs = [.int .i64 x.f0, .int .i64 x.f1, .int .i64 x.f2] := by
 obtain ⟨_, _, rfl, rfl, ⟨_, _, rfl, rfl, rfl⟩⟩ := h
 exact rfl
theorem k37_openM {w : World} {base : Nat} {ok : Nat → Prop} {x : S37} {cs : List Value} (h : k37.M w base ok x cs) : cs = [.int .i64 x.f0, .int .i64 x.f1, .int .i64 x.f2] := by
 obtain ⟨_, _, rfl, rfl, ⟨_, _, rfl, rfl, rfl⟩⟩ := h
 exact rfl
theorem k37_mk (w : World) (x : S37)  : k37.K w x [.int .i64 x.f0, .int .i64 x.f1, .int .i64 x.f2] := ⟨[.int .i64 x.f0], [.int .i64 x.f1, .int .i64 x.f2], rfl, rfl, ⟨[.int .i64 x.f1], [.int .i64 x.f2], rfl, rfl, rfl⟩⟩
theorem k37_mkM (w : World) (base : Nat) (ok : Nat → Prop) (x : S37)  : k37.M w base ok x [.int .i64 x.f0, .int .i64 x.f1, .int .i64 x.f2] := ⟨[.int .i64 x.f0], [.int .i64 x.f1, .int .i64 x.f2], rfl, rfl, ⟨[.int .i64 x.f1], [.int .i64 x.f2], rfl, rfl, rfl⟩⟩
def rd_T37 (xs : List S37) (i : Int) : S37 := xs.getD i.toNat z37
theorem at_T37 {w : World} {A : Option Addr} {n : Nat} {xs : List S37} (h : Kd.C k37 w A n xs) (i : Int) (h0 : 0 ≤ i) (h1 : i < n) : ∃ ad , A = some ad ∧ w.cell? (ad.add (i.toNat * 3)) = some (.int .i64 (rd_T37 xs i).f0) ∧ w.cell? ⟨(ad.add (i.toNat * 3)).block, (ad.add (i.toNat * 3)).off + 1, none⟩ = some (.int .i64 (rd_T37 xs i).f1) ∧ w.cell? ⟨(ad.add (i.toNat * 3)).block, (ad.add (i.toNat * 3)).off + 2, none⟩ = some (.int .i64 (rd_T37 xs i).f2) := by
 obtain ⟨ad, c, e, _, hK, hc0⟩ := Kd.C_get h z37 i h0 h1
 have hc : ∀ j u, c[j]? = some u → w.cell? (ad.add (i.toNat * 3 + j)) = some u := hc0
 obtain rfl := k37_open hK
 exact ⟨ad, e, hc 0 _ rfl, by rw [← add_field _ _ 1 (by omega)]; exact hc 1 _ rfl, by rw [← add_field _ _ 2 (by omega)]; exact hc 2 _ rfl⟩

def rd_L4 (xs : List (List S37)) (i : Int) : (List S37) := xs.getD i.toNat ([] : List S37)
theorem at_L4 {w : World} {A : Option Addr} {n : Nat} {xs : List (List S37)} (h : Kd.C (Kd.slice 37 k37) w A n xs) (i : Int) (h0 : 0 ≤ i) (h1 : i < n) : ∃ ad A0 c0, A = some ad ∧ w.cell? (ad.add i.toNat) = some (.slice A0 (rd_L4 xs i).length c0) ∧ (rd_L4 xs i).length ≤ c0 ∧ k37.C w A0 (rd_L4 xs i).length (rd_L4 xs i) := by
 obtain ⟨ad, c, e, _, hK, hc0⟩ := Kd.C_get h ([] : List S37) i h0 h1
 have hc : ∀ j u, c[j]? = some u → w.cell? (ad.add (i.toNat * 1 + j)) = some u := hc0
 obtain ⟨A0, c0, rfl, l0, g0⟩ := hK
 exact ⟨ad, A0, c0, e, by have hq := hc 0 _ rfl; rwa [Nat.mul_one, Nat.add_zero] at hq, l0, g0⟩

/-! #### struct type 28 -/
structure S28 where
 f0 : (List S37)
def z28 : S28 := ⟨([] : List S37)⟩
def k28 : Kd S28 := Kd.iso (Kd.slice 37 k37) (fun x : S28 => x.f0)
theorem k28_open {w : World} {x : S28} {cs : List Value} (h : k28.K w x cs) : ∃ A0 c0, cs = [.slice A0 x.f0.length c0] ∧ x.f0.length ≤ c0 ∧ k37.C w A0 x.f0.length x.f0 := by
 obtain ⟨A0, c0, rfl, l0, g0⟩ := h
 exact ⟨A0, c0, rfl, l0, g0⟩
theorem k28_openM {w : World} {base : Nat} {ok : Nat → Prop} {x : S28} {cs : List Value} (h : k28.M w base ok x cs) : ∃ v0, cs = [v0] ∧ k37.R 37 w base ok v0 x.f0 := by
 obtain ⟨v0, rfl, g0⟩ := h
 exact ⟨v0, rfl, g0⟩
theorem k28_mk (w : World) (x : S28) {A0 : Option Addr} {c0 : Nat} (l0 : x.f0.length ≤ c0) (g0 : k37.C w A0 x.f0.length x.f0) : k28.K w x [.slice A0 x.f0.length c0] := ⟨A0, c0, rfl, l0, g0⟩
theorem k28_mkM (w : World) (base : Nat) (ok : Nat → Prop) (x : S28) {v0 : Value} (g0 : k37.R 37 w base ok v0 x.f0) : k28.M w base ok x [v0] := ⟨v0, rfl, g0⟩
def rd_T28 (xs : List S28) (i : Int) : S28 := xs.getD i.toNat z28
theorem at_T28 {w : World} {A : Option Addr} {n : Nat} {xs : List S28} (h : Kd.C k28 w A n xs) (i : Int) (h0 : 0 ≤ i) (h1 : i < n) : ∃ ad A0 c0, A = some ad ∧ w.cell? (ad.add i.toNat) = some (.slice A0 (rd_T28 xs i).f0.length c0) ∧ (rd_T28 xs i).f0.length ≤ c0 ∧ k37.C w A0 (rd_T28 xs i).f0.length (rd_T28 xs i).f0 := by
 obtain ⟨ad, c, e, _, hK, hc0⟩ := Kd.C_get h z28 i h0 h1
 have hc : ∀ j u, c[j]? = some u → w.cell? (ad.add (i.toNat * 1 + j)) = some u := hc0
 obtain ⟨A0, c0, rfl, l0, g0⟩ := k28_open hK
 exact ⟨ad, A0, c0, e, by have hq := hc 0 _ rfl; rwa [Nat.mul_one, Nat.add_zero] at hq, l0, g0⟩

def rd_L6 (xs : List (List ByteArray)) (i : Int) : (List ByteArray) := xs.getD i.toNat ([] : List ByteArray)
theorem at_L6 {w : World} {A : Option Addr} {n : Nat} {xs : List (List ByteArray)} (h : Kd.C (Kd.slice 9 Kd.string) w A n xs) (i : Int) (h0 : 0 ≤ i) (h1 : i < n) : ∃ ad A0 c0, A = some ad ∧ w.cell? (ad.add i.toNat) = some (.slice A0 (rd_L6 xs i).length c0) ∧ (rd_L6 xs i).length ≤ c0 ∧ Kd.string.C w A0 (rd_L6 xs i).length (rd_L6 xs i) := by
 obtain ⟨ad, c, e, _, hK, hc0⟩ := Kd.C_get h ([] : List ByteArray) i h0 h1
 have hc : ∀ j u, c[j]? = some u → w.cell? (ad.add (i.toNat * 1 + j)) = some u := hc0
 obtain ⟨A0, c0, rfl, l0, g0⟩ := hK
 exact ⟨ad, A0, c0, e, by have hq := hc 0 _ rfl; rwa [Nat.mul_one, Nat.add_zero] at hq, l0, g0⟩


theorem eqA37 (d : Nat) (w : World) (x0 y0 : Int) (x1 y1 : Int) (x2 y2 : Int) :
 (Op.equalIn (d + 2) 37 (.agg #[.int .i64 x0, .int .i64 x1, .int .i64 x2]) (.agg #[.int .i64 y0, .int .i64 y1, .int .i64 y2])).run Tryz.prog w = .ok (x0 == y0 && (x1 == y1 && (x2 == y2))) w := by
 refine eqA_of Tryz.underlying37 (by kernel_rfl) ?_
 refine eqf_cons (by rfl) (by go_simp; rfl) (by go_simp; rfl) (by go_simp) ?_
 refine eqf_cons (by rfl) (by go_simp; rfl) (by go_simp; rfl) (by go_simp) ?_
 exact eqf_last (by rfl) (by go_simp; rfl) (by go_simp; rfl) (by go_simp)
theorem z2_1_ {p : Prop} (h : p := by (try simp only [List.map_toArray, List.map_cons, List.map_nil]); first | done | rfl | (simp only [List.length_drop, List.length_take]; rfl)) : p := h
theorem z2_2_ {p : Prop} (h : p := by repeat (first | (with_reducible first | exact HK.out | apply KeepBut.set_ | apply keep_drewN | apply keep_drew | apply keep_alloc) | exact HK.out)) : p := h
theorem z2_3_ {p : Prop} (h : p := by exact rr_ HO125.out) : p := h

/-! ### laws_big: function 5 -/
def laws_big.f (l0 : List Int) (l1 : List Int) : Option (Bool) := if (l0.length : Int) > 1048576 then (some true) else (some (decide ((l1.length : Int) > (wrap64 (1048576 - (l0.length : Int))))))
set_option maxHeartbeats 8000000 in
set_option maxRecDepth 100000 in
theorem laws_big.calls (A0 : Option Addr) (c0 : Nat) (l0 : List Int) (A1 : Option Addr) (c1 : Nat) (l1 : List Int) (r : Bool) (w : World) (hr0 : Kd.C (Kd.int .u8) w A0 l0.length l0) (hc0 : l0.length ≤ c0) (hr1 : Kd.C (Kd.int .u8) w A1 l1.length l1) (hc1 : l1.length ≤ c1) (h : laws_big.f l0 l1 = some r) :
 Calls Tryz.prog 5 #[.slice A0 l0.length c0, .slice A1 l1.length c1] w fun e w' => e = .returned (.bool r) ∧ Drawn0 w w' := by
 have HR0 := Aside0.mk hr0
 have HC0 := Aside0.mk hc0
 clear hr0 hc0
 have HR1 := Aside0.mk hr1
 have HC1 := Aside0.mk hc1
 clear hr1 hc1
 unfold laws_big.f at h
 have H := h
 clear h
 by_cases c3 : (l0.length : Int) > 1048576
 · rw [if_pos c3] at H
   have c3b0 : decide (1048576 < (l0.length : Int)) = true := decide_eq_true c3
   have c3b1 : decide (1048576 < l0.length) = true := decide_eq_true (by omega)
   clear c3
   obtain rfl := Option.some.inj H
   go_enter Tryz.func5, Tryz.ntmps5
   go_wp2
   go_ret
   exact ⟨by first | rfl | (simp; done) | (simp [*]; done), by repeat (first | exact Drawn0.refl _ | apply Drawn0.step)⟩
 rw [if_neg c3] at H
 have c3b0 : decide (1048576 < (l0.length : Int)) = false := decide_eq_false c3
 have c3b1 : decide (1048576 < l0.length) = false := decide_eq_false (by omega)
 clear c3
 obtain rfl := Option.some.inj H
 go_enter Tryz.func5, Tryz.ntmps5
 go_wp2
 go_ret
 exact ⟨by first | rfl | (simp; done) | (simp [*]; done), by repeat (first | exact Drawn0.refl _ | apply Drawn0.step)⟩

/-- A state of type 74 at block g of W; what its slices lead to came in by w0. -/
def IsS74 (w0 W : World) (g : Nat) (f0 : List Int) (f1 : Int) (f2 : Int) : Prop := ∃ A0 c0, W.heap[g]? = some (.cells #[.slice A0 f0.length c0, .int .i64 f1, .int .u64 f2] 74 (0, 0)) ∧ w0.heap.size ≤ g ∧ Kd.C (Kd.int .u8) w0 A0 f0.length f0
theorem IsS74.grown {w0 W : World} {g : Nat} {f0 : List Int} {f1 : Int} {f2 : Int} {W1 : World} {row : Option Nat} (h : IsS74 w0 W g f0 f1 f2) (hw : W.grownBy W1 row) (hne : some g ≠ row) : IsS74 w0 W1 g f0 f1 f2 := by
 obtain ⟨A0, c0, hb, hg, hr0⟩ := h
 exact ⟨A0, c0, blk_grown hb hw hne, hg, hr0⟩
theorem IsS74.own_neN {w0 W : World} {g : Nat} {f0 : List Int} {f1 : Int} {f2 : Int} {α : Type} {d : Kd α} {e : Nat} {base : Nat} {ok : Nat → Prop} {v : Value} {xs : List α} (h : IsS74 w0 W g f0 f1 f2) (ho : Kd.N d e W base ok v xs) (ht : e ≠ 74) : some g ≠ v.ownBlock := by
 obtain ⟨A0, c0, hb, hg, hr0⟩ := h
 exact Kd.N_ne ho hb ht
theorem IsS74.fresh {w0 W : World} {g : Nat} {f0 : List Int} {f1 : Int} {f2 : Int} (h : IsS74 w0 W g f0 f1 f2) : ∀ k, W.heap.size ≤ k → k ≠ g := by
 obtain ⟨A0, c0, hb, hg, hr0⟩ := h
 exact Kd.freshB hb
theorem IsS74.kept {w0 W : World} {g : Nat} {f0 : List Int} {f1 : Int} {f2 : Int} {W1 : World} {S : Nat → Prop} (h : IsS74 w0 W g f0 f1 f2) (hk : Kept W W1 S) (hne : ¬ S g) : IsS74 w0 W1 g f0 f1 f2 := by
 obtain ⟨A0, c0, hb, hg, hr0⟩ := h
 exact ⟨A0, c0, blk_kept hb hk hne, hg, hr0⟩
theorem IsS74.below {w0 W : World} {g : Nat} {f0 : List Int} {f1 : Int} {f2 : Int} {W1 : World} (h : IsS74 w0 W g f0 f1 f2) (hw : Below W.heap.size W W1) : IsS74 w0 W1 g f0 f1 f2 := h.grown (grown_of_below hw none) (by simp)
theorem IsS74.alloc {w0 W : World} {g : Nat} {f0 : List Int} {f1 : Int} {f2 : Int} (h : IsS74 w0 W g f0 f1 f2) (o : Obj) : IsS74 w0 (W.alloc o) g f0 f1 f2 := h.below (below_alloc (Below.refl _ _) o)
theorem IsS74.drewN {w0 W : World} {g : Nat} {f0 : List Int} {f1 : Int} {f2 : Int} (h : IsS74 w0 W g f0 f1 f2) (m : Nat) : IsS74 w0 (W.drewN m) g f0 f1 f2 := h
theorem IsS74.drew {w0 W : World} {g : Nat} {f0 : List Int} {f1 : Int} {f2 : Int} (h : IsS74 w0 W g f0 f1 f2) : IsS74 w0 W.drew g f0 f1 f2 := h
theorem IsS74.at_ {w0 W : World} {g : Nat} {f0 : List Int} {f1 : Int} {f2 : Int} {w' : World} {m : Nat} (hq : W.drewN m = w') (h : IsS74 w0 W g f0 f1 f2) : IsS74 w0 w' g f0 f1 f2 := by subst hq; exact IsS74.drewN h m
theorem IsS74.apart {w0 W : World} {g : Nat} {f0 : List Int} {f1 : Int} {f2 : Int} {α : Type} {d : Kd α} {e : Nat} {base : Nat} {ok : Nat → Prop} {v : Value} {xs : List α} (h : IsS74 w0 W g f0 f1 f2) (ho : d.R e W base ok v xs) (ht : ∀ q, q ∈ e :: d.E → q ≠ 74) : d.R e W base (fun k => ok k ∧ k ≠ g) v xs := by
 obtain ⟨A0, c0, hb, hg, hr0⟩ := h
 exact Kd.R_types ho hb ht
theorem IsS74.own_ne {w0 W : World} {g : Nat} {f0 : List Int} {f1 : Int} {f2 : Int} {α : Type} {d : Kd α} {e : Nat} {base : Nat} {ok : Nat → Prop} {v : Value} {xs : List α} (h : IsS74 w0 W g f0 f1 f2) (ho : d.R e W base ok v xs) (ht : e ≠ 74) : some g ≠ v.ownBlock := by
 obtain ⟨A0, c0, hb, hg, hr0⟩ := h
 exact Kd.R_ne ho hb ht
theorem IsS74.apartQ {w0 W : World} {g : Nat} {f0 : List Int} {f1 : Int} {f2 : Int} {α : Type} {d : Kd α} {e : Nat} {base : Nat} {ok : Nat → Prop} {v : Value} {xs : List α} (h : IsS74 w0 W g f0 f1 f2) (ho : d.Q e W base ok v xs) (ht : ∀ q, q ∈ e :: d.E → q ≠ 74) : d.Q e W base (fun k => ok k ∧ k ≠ g) v xs := by
 obtain ⟨A0, c0, hb, hg, hr0⟩ := h
 exact Kd.Q_types ho hb ht
theorem IsS74.own_neQ {w0 W : World} {g : Nat} {f0 : List Int} {f1 : Int} {f2 : Int} {α : Type} {d : Kd α} {e : Nat} {base : Nat} {ok : Nat → Prop} {v : Value} {xs : List α} (h : IsS74 w0 W g f0 f1 f2) (ho : d.Q e W base ok v xs) (ht : e ≠ 74) : some g ≠ v.ownBlock := by
 obtain ⟨A0, c0, hb, hg, hr0⟩ := h
 exact Kd.Q_ne ho hb ht
theorem IsS74.apartS {w0 W : World} {g : Nat} {f0 : List Int} {f1 : Int} {f2 : Int} {α : Type} {d : Kd α} {e : Nat} {base : Nat} {ok : Nat → Prop} {v : Value} {xs : List α} (h : IsS74 w0 W g f0 f1 f2) (ho : d.S e W base ok v xs) (ht : ∀ q, q ∈ e :: d.E → q ≠ 74) : d.S e W base (fun k => ok k ∧ k ≠ g) v xs := by
 obtain ⟨A0, c0, hb, hg, hr0⟩ := h
 exact Kd.S_types ho hb ht
theorem IsS74.own_neS {w0 W : World} {g : Nat} {f0 : List Int} {f1 : Int} {f2 : Int} {α : Type} {d : Kd α} {e : Nat} {base : Nat} {ok : Nat → Prop} {v : Value} {xs : List α} (h : IsS74 w0 W g f0 f1 f2) (ho : d.S e W base ok v xs) (ht : e ≠ 74) : some g ≠ v.ownBlock := by
 obtain ⟨A0, c0, hb, hg, hr0⟩ := h
 exact Kd.S_ne ho hb ht
theorem IsS74.lt {w0 W : World} {g : Nat} {f0 : List Int} {f1 : Int} {f2 : Int} (h : IsS74 w0 W g f0 f1 f2) : g < W.heap.size := by
 obtain ⟨A0, c0, hb, hg, hr0⟩ := h
 exact blk_lt hb
theorem IsS74.ge {w0 W : World} {g : Nat} {f0 : List Int} {f1 : Int} {f2 : Int} (h : IsS74 w0 W g f0 f1 f2) : w0.heap.size ≤ g := by
 obtain ⟨A0, c0, hb, hg, hr0⟩ := h
 exact hg
theorem IsS74.ne_blk {w0 W : World} {g : Nat} {f0 : List Int} {f1 : Int} {f2 : Int} {a : Nat} {cs : Array Value} {t : TypeId} {fr : Nat × Nat} (h : IsS74 w0 W g f0 f1 f2) (hb2 : W.heap[a]? = some (.cells cs t fr)) (ht : t ≠ 74) : g ≠ a := by
 obtain ⟨A0, c0, hb, hg, hr0⟩ := h
 rintro rfl
 rw [hb] at hb2
 injection hb2 with hb2
 injection hb2 with _ ht2
 exact ht ht2.symm
theorem IsS74.far {w0 W : World} {g : Nat} {f0 : List Int} {f1 : Int} {f2 : Int} {p : Addr} (h : IsS74 w0 W g f0 f1 f2) (hne : g ≠ p.block) (u : Value) : IsS74 w0 (W.setCell p u) g f0 f1 f2 := by
 obtain ⟨A0, c0, hb, hg, hr0⟩ := h
 exact ⟨A0, c0, blk_far hb hne u, hg, hr0⟩
theorem cellS74_0 {W : World} {g : Nat} {A0 : Option Addr} {c0 : Nat} {f0 : List Int} {f1 : Int} {f2 : Int} (h : W.heap[g]? = some (.cells #[.slice A0 f0.length c0, .int .i64 f1, .int .u64 f2] 74 (0, 0))) : W.cell? ⟨g, 0, none⟩ = some (.slice A0 f0.length c0) := (blk_cell h 0).trans rfl
theorem cellS74_1 {W : World} {g : Nat} {A0 : Option Addr} {c0 : Nat} {f0 : List Int} {f1 : Int} {f2 : Int} (h : W.heap[g]? = some (.cells #[.slice A0 f0.length c0, .int .i64 f1, .int .u64 f2] 74 (0, 0))) : W.cell? ⟨g, 1, none⟩ = some (.int .i64 f1) := (blk_cell h 1).trans rfl
theorem IsS74.set_1 {w0 W : World} {g : Nat} {f0 : List Int} {f1 : Int} {f2 : Int} (h : IsS74 w0 W g f0 f1 f2) (x : Int) : IsS74 w0 (W.setCell ⟨g, 1, none⟩ (.int .i64 x)) g f0 x f2 := by
 obtain ⟨A0, c0, hb, hg, hr0⟩ := h
 exact ⟨A0, c0, by simpa using blk_set hb 1 (.int .i64 x), hg, hr0⟩
theorem cellS74_2 {W : World} {g : Nat} {A0 : Option Addr} {c0 : Nat} {f0 : List Int} {f1 : Int} {f2 : Int} (h : W.heap[g]? = some (.cells #[.slice A0 f0.length c0, .int .i64 f1, .int .u64 f2] 74 (0, 0))) : W.cell? ⟨g, 2, none⟩ = some (.int .u64 f2) := (blk_cell h 2).trans rfl
theorem IsS74.set_2 {w0 W : World} {g : Nat} {f0 : List Int} {f1 : Int} {f2 : Int} (h : IsS74 w0 W g f0 f1 f2) (x : Int) : IsS74 w0 (W.setCell ⟨g, 2, none⟩ (.int .u64 x)) g f0 f1 x := by
 obtain ⟨A0, c0, hb, hg, hr0⟩ := h
 exact ⟨A0, c0, by simpa using blk_set hb 2 (.int .u64 x), hg, hr0⟩
theorem IsS74.new (w0 W : World) (A0 : Option Addr) (c0 : Nat) (f0 : List Int) (f1 : Int) (f2 : Int) (hB : Below w0.heap.size w0 W) (hr0 : Kd.C (Kd.int .u8) w0 A0 f0.length f0) : IsS74 w0 (W.alloc (.cells #[.slice A0 f0.length c0, .int .i64 f1, .int .u64 f2] 74)) W.heap.size f0 f1 f2 := ⟨A0, c0, by simpa using heap_alloc_new W _, hB.size, hr0⟩

/-! ### spec_l1Cur_next: function 100 -/
def spec_l1Cur_next.f (s0_0 : List Int) (s0_1 : Int) (s0_2 : Int) : Option (Int × Int × Int) := if s0_1 < (s0_0.length : Int) then (if 0 ≤ s0_1 then (if (wrap64 (s0_1 + 1)) ≤ (s0_0.length : Int) then (some (wrap64 (rd s0_0 s0_1), wrap64 (s0_1 + 1), IntKind.u64.wrap ((IntKind.u64.wrap ((IntKind.u64.wrap (s0_2 * 6364136223846793005)) + (IntKind.u64.wrap (wrap64 (rd s0_0 s0_1))))) + 1442695040888963407))) else (some (wrap64 (Go.bits .and .u64 ((IntKind.u64.wrap ((IntKind.u64.wrap ((IntKind.u64.wrap (s0_2 * 6364136223846793005)) + (IntKind.u64.wrap (wrap64 (rd s0_0 s0_1))))) + 1442695040888963407)) / 1099511627776) 255), wrap64 (s0_1 + 1), IntKind.u64.wrap ((IntKind.u64.wrap ((IntKind.u64.wrap (s0_2 * 6364136223846793005)) + (IntKind.u64.wrap (wrap64 (rd s0_0 s0_1))))) + 1442695040888963407)))) else (none)) else (if (wrap64 (s0_1 + 1)) ≤ (s0_0.length : Int) then (some (0, wrap64 (s0_1 + 1), IntKind.u64.wrap ((IntKind.u64.wrap ((IntKind.u64.wrap (s0_2 * 6364136223846793005)))) + 1442695040888963407))) else (some (wrap64 (Go.bits .and .u64 ((IntKind.u64.wrap ((IntKind.u64.wrap ((IntKind.u64.wrap (s0_2 * 6364136223846793005)))) + 1442695040888963407)) / 1099511627776) 255), wrap64 (s0_1 + 1), IntKind.u64.wrap ((IntKind.u64.wrap ((IntKind.u64.wrap (s0_2 * 6364136223846793005)))) + 1442695040888963407))))
set_option maxHeartbeats 8000000 in
set_option maxRecDepth 100000 in
theorem spec_l1Cur_next.calls (g : Nat) (s0_0 : List Int) (s0_1 : Int) (s0_2 : Int) (r1 : Int) (r2 : Int) (r3 : Int) (w0 w : World) (hI : IsS74 w0 w g s0_0 s0_1 s0_2) (hB : Below w0.heap.size w0 w) (h : spec_l1Cur_next.f s0_0 s0_1 s0_2 = some (r1, r2, r3)) :
 Calls Tryz.prog 100 #[.pointer (some ⟨g, 0, none⟩)] w fun e w' => e = .returned (.int .i64 r1) ∧ IsS74 w0 w' g s0_0 r2 r3 ∧ Below w0.heap.size w0 w' ∧ KeepBut w w' g none := by
 have HI0 := Aside0.mk hI
 have HK := Aside0.mk (KeepBut.refl w g none)
 have HL := Aside0.mk hB.size
 clear hI
 have HW0 := Aside0.mk hB.size
 have HB := Aside0.mk hB
 clear hB
 unfold spec_l1Cur_next.f at h
 have H := h
 clear h
 by_cases c2 : s0_1 < (s0_0.length : Int)
 · rw [if_pos c2] at H
   have c2b0 := decide_eq_true c2
   clear c2
   replace H := gd_ H; obtain ⟨c3, H⟩ := H
   have c3b0 : decide (0 ≤ s0_1) = true := decide_eq_true c3
   clear c3
   by_cases c4 : (wrap64 (s0_1 + 1)) ≤ (s0_0.length : Int)
   · rw [if_pos c4] at H
     have c4b0 := decide_eq_true c4
     clear c4
     simp only [Option.some.injEq, Prod.mk.injEq] at H
     obtain ⟨rfl, rfl, rfl⟩ := H
     obtain ⟨ASz5_0, cSz5_0, HGz5, hgz5, HSz5_0⟩ := HI0.out
     have hcz5_0 := cellS74_0 HGz5
     have hcz5_1 := cellS74_1 HGz5
     have hcz5_2 := cellS74_2 HGz5
     have hfz5_1 := blk_frozen HGz5 1
     have hfz5_2 := blk_frozen HGz5 2
     clear HGz5 hgz5
     have p101 : 0 ≤ (s0_1 : Int) := of_decide_eq_true zS_
     have q101 : s0_1 < (s0_0.length : Int) := of_decide_eq_true zS_
     obtain ⟨ad101, e101, hx101_0⟩ := Kd.at_int HSz5_0 s0_1 p101 q101
     cases e101
     replace hx101_0 := pw_cell_below HB.out hx101_0
     replace p101 := eq_true p101
     replace q101 := eq_true q101
     go_enter Tryz.func100, Tryz.ntmps100
     go_wp2
     repeat (go_quiet (fail); try go_wp2)
     go_ret
     exact ⟨zR_, by repeat (first | (with_reducible first | exact HI0.out | apply IsS74.alloc | apply IsS74.drewN | apply IsS74.drew | apply IsS74.set_1 | apply IsS74.set_2) | exact HI0.out), by repeat (first | (with_reducible first | exact HB.out | apply below_alloc | apply pw_below_drewN | apply below_drew1 | refine below_set ?_ (IsS74.ge HI0.out)) | exact HB.out), by repeat (first | (with_reducible first | exact HK.out | apply KeepBut.set_ | apply keep_drewN | apply keep_drew | apply keep_alloc) | exact HK.out)⟩
   rw [if_neg c4] at H
   have c4b0 := decide_eq_false c4
   clear c4
   simp only [Option.some.injEq, Prod.mk.injEq] at H
   obtain ⟨rfl, rfl, rfl⟩ := H
   obtain ⟨ASz6_0, cSz6_0, HGz6, hgz6, HSz6_0⟩ := HI0.out
   have hcz6_0 := cellS74_0 HGz6
   have hcz6_1 := cellS74_1 HGz6
   have hcz6_2 := cellS74_2 HGz6
   have hfz6_1 := blk_frozen HGz6 1
   have hfz6_2 := blk_frozen HGz6 2
   clear HGz6 hgz6
   have p101 : 0 ≤ (s0_1 : Int) := of_decide_eq_true zS_
   have q101 : s0_1 < (s0_0.length : Int) := of_decide_eq_true zS_
   obtain ⟨ad101, e101, hx101_0⟩ := Kd.at_int HSz6_0 s0_1 p101 q101
   cases e101
   replace hx101_0 := pw_cell_below HB.out hx101_0
   replace p101 := eq_true p101
   replace q101 := eq_true q101
   go_enter Tryz.func100, Tryz.ntmps100
   go_wp2
   repeat (go_quiet (fail); try go_wp2)
   go_ret
   exact ⟨zR_, by repeat (first | (with_reducible first | exact HI0.out | apply IsS74.alloc | apply IsS74.drewN | apply IsS74.drew | apply IsS74.set_1 | apply IsS74.set_2) | exact HI0.out), by repeat (first | (with_reducible first | exact HB.out | apply below_alloc | apply pw_below_drewN | apply below_drew1 | refine below_set ?_ (IsS74.ge HI0.out)) | exact HB.out), by repeat (first | (with_reducible first | exact HK.out | apply KeepBut.set_ | apply keep_drewN | apply keep_drew | apply keep_alloc) | exact HK.out)⟩
 rw [if_neg c2] at H
 have c2b0 := decide_eq_false c2
 clear c2
 by_cases c7 : (wrap64 (s0_1 + 1)) ≤ (s0_0.length : Int)
 · rw [if_pos c7] at H
   have c7b0 := decide_eq_true c7
   clear c7
   simp only [Option.some.injEq, Prod.mk.injEq] at H
   obtain ⟨rfl, rfl, rfl⟩ := H
   obtain ⟨ASz8_0, cSz8_0, HGz8, hgz8, HSz8_0⟩ := HI0.out
   have hcz8_0 := cellS74_0 HGz8
   have hcz8_1 := cellS74_1 HGz8
   have hcz8_2 := cellS74_2 HGz8
   have hfz8_1 := blk_frozen HGz8 1
   have hfz8_2 := blk_frozen HGz8 2
   clear HGz8 hgz8
   go_enter Tryz.func100, Tryz.ntmps100
   go_wp2
   repeat (go_quiet (fail); try go_wp2)
   go_ret
   exact ⟨zR_, by repeat (first | (with_reducible first | exact HI0.out | apply IsS74.alloc | apply IsS74.drewN | apply IsS74.drew | apply IsS74.set_1 | apply IsS74.set_2) | exact HI0.out), by repeat (first | (with_reducible first | exact HB.out | apply below_alloc | apply pw_below_drewN | apply below_drew1 | refine below_set ?_ (IsS74.ge HI0.out)) | exact HB.out), by repeat (first | (with_reducible first | exact HK.out | apply KeepBut.set_ | apply keep_drewN | apply keep_drew | apply keep_alloc) | exact HK.out)⟩
 rw [if_neg c7] at H
 have c7b0 := decide_eq_false c7
 clear c7
 simp only [Option.some.injEq, Prod.mk.injEq] at H
 obtain ⟨rfl, rfl, rfl⟩ := H
 obtain ⟨ASz9_0, cSz9_0, HGz9, hgz9, HSz9_0⟩ := HI0.out
 have hcz9_0 := cellS74_0 HGz9
 have hcz9_1 := cellS74_1 HGz9
 have hcz9_2 := cellS74_2 HGz9
 have hfz9_1 := blk_frozen HGz9 1
 have hfz9_2 := blk_frozen HGz9 2
 clear HGz9 hgz9
 go_enter Tryz.func100, Tryz.ntmps100
 go_wp2
 repeat (go_quiet (fail); try go_wp2)
 go_ret
 exact ⟨zR_, by repeat (first | (with_reducible first | exact HI0.out | apply IsS74.alloc | apply IsS74.drewN | apply IsS74.drew | apply IsS74.set_1 | apply IsS74.set_2) | exact HI0.out), by repeat (first | (with_reducible first | exact HB.out | apply below_alloc | apply pw_below_drewN | apply below_drew1 | refine below_set ?_ (IsS74.ge HI0.out)) | exact HB.out), by repeat (first | (with_reducible first | exact HK.out | apply KeepBut.set_ | apply keep_drewN | apply keep_drew | apply keep_alloc) | exact HK.out)⟩

/-! ### spec_l1Cur_pick: function 61 -/
def spec_l1Cur_pick.f (s0_0 : List Int) (s0_1 : Int) (s0_2 : Int) (a1 : Int) : Option (Int × Int × Int) := if a1 ≤ 1 then (some (0, s0_1, s0_2)) else ((spec_l1Cur_next.f s0_0 s0_1 s0_2).bind fun bt102 => (if a1 > 200 then ((spec_l1Cur_next.f s0_0 bt102.2.1 bt102.2.2).bind fun bt105 => (if a1 = 0 then (none) else (some (Int.tmod (wrap64 ((wrap64 (bt102.1 * 256)) + bt105.1)) a1, bt105.2.1, bt105.2.2)))) else (if a1 = 0 then (none) else (some (Int.tmod bt102.1 a1, bt102.2.1, bt102.2.2)))))
set_option maxHeartbeats 8000000 in
set_option maxRecDepth 100000 in
theorem spec_l1Cur_pick.calls (g : Nat) (s0_0 : List Int) (s0_1 : Int) (s0_2 : Int) (a1 : Int) (r1 : Int) (r2 : Int) (r3 : Int) (w0 w : World) (hI : IsS74 w0 w g s0_0 s0_1 s0_2) (hB : Below w0.heap.size w0 w) (h : spec_l1Cur_pick.f s0_0 s0_1 s0_2 a1 = some (r1, r2, r3)) :
 Calls Tryz.prog 61 #[.pointer (some ⟨g, 0, none⟩), .int .i64 a1] w fun e w' => e = .returned (.int .i64 r1) ∧ IsS74 w0 w' g s0_0 r2 r3 ∧ Below w0.heap.size w0 w' ∧ KeepBut w w' g none := by
 have HI0 := Aside0.mk hI
 have HK := Aside0.mk (KeepBut.refl w g none)
 have HL := Aside0.mk hB.size
 clear hI
 have HW0 := Aside0.mk hB.size
 have HB := Aside0.mk hB
 clear hB
 unfold spec_l1Cur_pick.f at h
 have H := h
 clear h
 by_cases c3 : a1 ≤ 1
 · rw [if_pos c3] at H
   have c3b0 := decide_eq_true c3
   clear c3
   simp only [Option.some.injEq, Prod.mk.injEq] at H
   obtain ⟨rfl, rfl, rfl⟩ := H
   go_enter Tryz.func61, Tryz.ntmps61
   go_wp2
   go_ret
   exact ⟨zR_, by repeat (first | (with_reducible first | exact HI0.out | apply IsS74.alloc | apply IsS74.drewN | apply IsS74.drew | apply IsS74.set_1 | apply IsS74.set_2) | exact HI0.out), by repeat (first | (with_reducible first | exact HB.out | apply below_alloc | apply pw_below_drewN | apply below_drew1 | refine below_set ?_ (IsS74.ge HI0.out)) | exact HB.out), by repeat (first | (with_reducible first | exact HK.out | apply KeepBut.set_ | apply keep_drewN | apply keep_drew | apply keep_alloc) | exact HK.out)⟩
 rw [if_neg c3] at H
 have c3b0 := decide_eq_false c3
 clear c3
 replace H := bd_ H; obtain ⟨⟨t102, t103, t104⟩, A4, H⟩ := H
 dsimp only at H
 by_cases c5 : a1 > 200
 · rw [if_pos c5] at H
   have c5b0 : decide (200 < a1) = true := decide_eq_true c5
   clear c5
   replace H := bd_ H; obtain ⟨⟨t105, t106, t107⟩, A6, H⟩ := H
   dsimp only at H
   replace H := nz_ H; obtain ⟨c7, H⟩ := H
   have c7b0 : (a1 == 0) = false := beq_eq_false_iff_ne.mpr c7
   have c7b1 : (a1 != 0) = true := bne_iff_ne.mpr c7
   simp only [Option.some.injEq, Prod.mk.injEq] at H
   obtain ⟨rfl, rfl, rfl⟩ := H
   go_enter Tryz.func61, Tryz.ntmps61
   go_wp2_with (first | ((with_reducible refine gc_ 100 rfl ?_); refine gL_ 9 Tryz.func100 #[.pointer (some ⟨g, 0, none⟩)] ?_; (with_reducible refine (spec_l1Cur_next.calls g s0_0 s0_1 s0_2 t102 t103 t104 w0 _ ?side1 ?side2 A4.out).mono ?_); (case side1 => exact zc6_3_); (case side2 => exact zc6_2_); rintro e w8 ⟨rfl, hi, hb, hk⟩; refine ⟨_, rfl, ?_⟩; replace HK := Aside0.mk (KeepBut.trans z2_2_ hk (.inl rfl)); replace HB := Aside0.mk (hb); replace HI0 := Aside0.mk (hi)) | ((with_reducible refine gc_ 100 rfl ?_); refine gL_ 15 Tryz.func100 #[.pointer (some ⟨g, 0, none⟩)] ?_; (with_reducible refine (spec_l1Cur_next.calls g s0_0 t103 t104 t105 t106 t107 w0 _ ?side1 ?side2 A6.out).mono ?_); (case side1 => exact zc6_3_); (case side2 => exact zc6_2_); rintro e w9 ⟨rfl, hi, hb, hk⟩; refine ⟨_, rfl, ?_⟩; replace HK := Aside0.mk (KeepBut.trans z2_2_ hk (.inl rfl)); replace HB := Aside0.mk (hb); replace HI0 := Aside0.mk (hi)))
   go_ret
   exact ⟨zR_, by repeat (first | (with_reducible first | exact HI0.out | apply IsS74.alloc | apply IsS74.drewN | apply IsS74.drew | apply IsS74.set_1 | apply IsS74.set_2) | exact HI0.out), by repeat (first | (with_reducible first | exact HB.out | apply below_alloc | apply pw_below_drewN | apply below_drew1 | refine below_set ?_ (IsS74.ge HI0.out)) | exact HB.out), by repeat (first | (with_reducible first | exact HK.out | apply KeepBut.set_ | apply keep_drewN | apply keep_drew | apply keep_alloc) | exact HK.out)⟩
 rw [if_neg c5] at H
 have c5b0 : decide (200 < a1) = false := decide_eq_false c5
 clear c5
 replace H := nz_ H; obtain ⟨c10, H⟩ := H
 have c10b0 : (a1 == 0) = false := beq_eq_false_iff_ne.mpr c10
 have c10b1 : (a1 != 0) = true := bne_iff_ne.mpr c10
 simp only [Option.some.injEq, Prod.mk.injEq] at H
 obtain ⟨rfl, rfl, rfl⟩ := H
 go_enter Tryz.func61, Tryz.ntmps61
 go_wp2_with (first | ((with_reducible refine gc_ 100 rfl ?_); refine gL_ 9 Tryz.func100 #[.pointer (some ⟨g, 0, none⟩)] ?_; (with_reducible refine (spec_l1Cur_next.calls g s0_0 s0_1 s0_2 t102 t103 t104 w0 _ ?side1 ?side2 A4.out).mono ?_); (case side1 => exact zc6_3_); (case side2 => exact zc6_2_); rintro e w11 ⟨rfl, hi, hb, hk⟩; refine ⟨_, rfl, ?_⟩; replace HK := Aside0.mk (KeepBut.trans z2_2_ hk (.inl rfl)); replace HB := Aside0.mk (hb); replace HI0 := Aside0.mk (hi)))
 go_ret
 exact ⟨zR_, by repeat (first | (with_reducible first | exact HI0.out | apply IsS74.alloc | apply IsS74.drewN | apply IsS74.drew | apply IsS74.set_1 | apply IsS74.set_2) | exact HI0.out), by repeat (first | (with_reducible first | exact HB.out | apply below_alloc | apply pw_below_drewN | apply below_drew1 | refine below_set ?_ (IsS74.ge HI0.out)) | exact HB.out), by repeat (first | (with_reducible first | exact HK.out | apply KeepBut.set_ | apply keep_drewN | apply keep_drew | apply keep_alloc) | exact HK.out)⟩

/-! ### spec_l1Cur_one: function 57 -/
def spec_l1Cur_one.f (s0_0 : List Int) (s0_1 : Int) (s0_2 : Int) (a1 : Int) : Option (Bool × Int × Int) := (spec_l1Cur_pick.f s0_0 s0_1 s0_2 a1).bind fun bt108 => (some ((bt108.1 == 0), bt108.2.1, bt108.2.2))
set_option maxHeartbeats 8000000 in
set_option maxRecDepth 100000 in
theorem spec_l1Cur_one.calls (g : Nat) (s0_0 : List Int) (s0_1 : Int) (s0_2 : Int) (a1 : Int) (r1 : Bool) (r2 : Int) (r3 : Int) (w0 w : World) (hI : IsS74 w0 w g s0_0 s0_1 s0_2) (hB : Below w0.heap.size w0 w) (h : spec_l1Cur_one.f s0_0 s0_1 s0_2 a1 = some (r1, r2, r3)) :
 Calls Tryz.prog 57 #[.pointer (some ⟨g, 0, none⟩), .int .i64 a1] w fun e w' => e = .returned (.bool r1) ∧ IsS74 w0 w' g s0_0 r2 r3 ∧ Below w0.heap.size w0 w' ∧ KeepBut w w' g none := by
 have HI0 := Aside0.mk hI
 have HK := Aside0.mk (KeepBut.refl w g none)
 have HL := Aside0.mk hB.size
 clear hI
 have HW0 := Aside0.mk hB.size
 have HB := Aside0.mk hB
 clear hB
 unfold spec_l1Cur_one.f at h
 have H := h
 clear h
 replace H := bd_ H; obtain ⟨⟨t108, t109, t110⟩, A3, H⟩ := H
 dsimp only at H
 simp only [Option.some.injEq, Prod.mk.injEq] at H
 obtain ⟨rfl, rfl, rfl⟩ := H
 go_enter Tryz.func57, Tryz.ntmps57
 go_wp2_with (first | ((with_reducible refine gc_ 61 rfl ?_); refine gL_ 7 Tryz.func61 #[.pointer (some ⟨g, 0, none⟩), .int .i64 a1] ?_; (with_reducible refine (spec_l1Cur_pick.calls g s0_0 s0_1 s0_2 a1 t108 t109 t110 w0 _ ?side1 ?side2 A3.out).mono ?_); (case side1 => exact zc6_3_); (case side2 => exact zc6_2_); rintro e w4 ⟨rfl, hi, hb, hk⟩; refine ⟨_, rfl, ?_⟩; replace HK := Aside0.mk (KeepBut.trans z2_2_ hk (.inl rfl)); replace HB := Aside0.mk (hb); replace HI0 := Aside0.mk (hi)))
 go_ret
 exact ⟨zR_, by repeat (first | (with_reducible first | exact HI0.out | apply IsS74.alloc | apply IsS74.drewN | apply IsS74.drew | apply IsS74.set_1 | apply IsS74.set_2) | exact HI0.out), by repeat (first | (with_reducible first | exact HB.out | apply below_alloc | apply pw_below_drewN | apply below_drew1 | refine below_set ?_ (IsS74.ge HI0.out)) | exact HB.out), by repeat (first | (with_reducible first | exact HK.out | apply KeepBut.set_ | apply keep_drewN | apply keep_drew | apply keep_alloc) | exact HK.out)⟩

/-! ### spec_l1Cur_among: function 59 -/
def spec_l1Cur_among.f (s0_0 : List Int) (s0_1 : Int) (s0_2 : Int) (l1 : List Int) : Option (Int × Int × Int) := (spec_l1Cur_pick.f s0_0 s0_1 s0_2 (l1.length : Int)).bind fun bt111 => (if 0 ≤ bt111.1 then (if bt111.1 < (l1.length : Int) then (some (rd l1 bt111.1, bt111.2.1, bt111.2.2)) else (none)) else (none))
set_option maxHeartbeats 8000000 in
set_option maxRecDepth 100000 in
theorem spec_l1Cur_among.calls (g : Nat) (s0_0 : List Int) (s0_1 : Int) (s0_2 : Int) (A1 : Option Addr) (c1 : Nat) (l1 : List Int) (r1 : Int) (r2 : Int) (r3 : Int) (w0 w : World) (hI : IsS74 w0 w g s0_0 s0_1 s0_2) (hB : Below w0.heap.size w0 w) (hr1 : Kd.C (Kd.int .i64) w A1 l1.length l1) (hc1 : l1.length ≤ c1) (hf1 : ∀ ad, A1 = some ad → 0 < l1.length → ad.block ≠ g) (h : spec_l1Cur_among.f s0_0 s0_1 s0_2 l1 = some (r1, r2, r3)) :
 Calls Tryz.prog 59 #[.pointer (some ⟨g, 0, none⟩), .slice A1 l1.length c1] w fun e w' => e = .returned (.int .i64 r1) ∧ IsS74 w0 w' g s0_0 r2 r3 ∧ Below w0.heap.size w0 w' ∧ KeepBut w w' g none := by
 have HR1 := Aside0.mk hr1
 have HC1 := Aside0.mk hc1
 clear hr1 hc1
 have HI0 := Aside0.mk hI
 have HK := Aside0.mk (KeepBut.refl w g none)
 have HL := Aside0.mk hB.size
 clear hI
 have HW0 := Aside0.mk hB.size
 have HB := Aside0.mk hB
 clear hB
 unfold spec_l1Cur_among.f at h
 have H := h
 clear h
 replace H := bd_ H; obtain ⟨⟨t111, t112, t113⟩, A3, H⟩ := H
 dsimp only at H
 replace H := gd_ H; obtain ⟨c4, H⟩ := H
 have c4b0 : decide (0 ≤ t111) = true := decide_eq_true c4
 clear c4
 replace H := gd_ H; obtain ⟨c5, H⟩ := H
 have c5b0 : decide (t111 < (l1.length : Int)) = true := decide_eq_true c5
 clear c5
 simp only [Option.some.injEq, Prod.mk.injEq] at H
 obtain ⟨rfl, rfl, rfl⟩ := H
 go_enter Tryz.func59, Tryz.ntmps59
 go_wp2_with (first | ((with_reducible refine gc_ 61 rfl ?_); refine gL_ 9 Tryz.func61 #[.pointer (some ⟨g, 0, none⟩), .int .i64 (l1.length : Int)] ?_; (with_reducible refine (spec_l1Cur_pick.calls g s0_0 s0_1 s0_2 (l1.length : Int) t111 t112 t113 w0 _ ?side1 ?side2 A3.out).mono ?_); (case side1 => exact zc6_3_); (case side2 => exact zc6_2_); rintro e w6 ⟨rfl, hi, hb, hk⟩; refine ⟨_, rfl, ?_⟩; replace HK := Aside0.mk (KeepBut.trans z2_2_ hk (.inl rfl)); replace HB := Aside0.mk (hb); replace HI0 := Aside0.mk (hi); have p114 : 0 ≤ (t111 : Int) := of_decide_eq_true zS_; have q114 : t111 < (l1.length : Int) := of_decide_eq_true zS_; obtain ⟨ad114, e114, hx114_0⟩ := Kd.at_int HR1.out t111 p114 q114; cases e114; replace hx114_0 := keep_cell HK.out hx114_0 (by first | (rw [add_block]; exact hf1 _ rfl (by omega)) | exact hf1 _ rfl (by omega) | exact hf1 ad114 rfl (by omega)); replace p114 := eq_true p114; replace q114 := eq_true q114))
 go_ret
 exact ⟨zR_, by repeat (first | (with_reducible first | exact HI0.out | apply IsS74.alloc | apply IsS74.drewN | apply IsS74.drew | apply IsS74.set_1 | apply IsS74.set_2) | exact HI0.out), by repeat (first | (with_reducible first | exact HB.out | apply below_alloc | apply pw_below_drewN | apply below_drew1 | refine below_set ?_ (IsS74.ge HI0.out)) | exact HB.out), by repeat (first | (with_reducible first | exact HK.out | apply KeepBut.set_ | apply keep_drewN | apply keep_drew | apply keep_alloc) | exact HK.out)⟩

/-! ### spec_l1Cur_of: function 97 -/
def spec_l1Cur_of.f (s0_0 : List Int) (s0_1 : Int) (s0_2 : Int) (l1 : List ByteArray) : Option (ByteArray × Int × Int) := (spec_l1Cur_pick.f s0_0 s0_1 s0_2 (l1.length : Int)).bind fun bt115 => (if 0 ≤ bt115.1 then (if bt115.1 < (l1.length : Int) then (some (rdOf ByteArray.empty l1 bt115.1, bt115.2.1, bt115.2.2)) else (none)) else (none))
set_option maxHeartbeats 8000000 in
set_option maxRecDepth 100000 in
theorem spec_l1Cur_of.calls (g : Nat) (s0_0 : List Int) (s0_1 : Int) (s0_2 : Int) (A1 : Option Addr) (c1 : Nat) (l1 : List ByteArray) (r1 : ByteArray) (r2 : Int) (r3 : Int) (w0 w : World) (hI : IsS74 w0 w g s0_0 s0_1 s0_2) (hB : Below w0.heap.size w0 w) (hr1 : Kd.C Kd.string w A1 l1.length l1) (hc1 : l1.length ≤ c1) (hf1 : ∀ ad, A1 = some ad → 0 < l1.length → ad.block ≠ g) (h : spec_l1Cur_of.f s0_0 s0_1 s0_2 l1 = some (r1, r2, r3)) :
 Calls Tryz.prog 97 #[.pointer (some ⟨g, 0, none⟩), .slice A1 l1.length c1] w fun e w' => e = .returned (.string r1) ∧ IsS74 w0 w' g s0_0 r2 r3 ∧ Below w0.heap.size w0 w' ∧ KeepBut w w' g none := by
 have HR1 := Aside0.mk hr1
 have HC1 := Aside0.mk hc1
 clear hr1 hc1
 have HI0 := Aside0.mk hI
 have HK := Aside0.mk (KeepBut.refl w g none)
 have HL := Aside0.mk hB.size
 clear hI
 have HW0 := Aside0.mk hB.size
 have HB := Aside0.mk hB
 clear hB
 unfold spec_l1Cur_of.f at h
 have H := h
 clear h
 replace H := bd_ H; obtain ⟨⟨t115, t116, t117⟩, A3, H⟩ := H
 dsimp only at H
 replace H := gd_ H; obtain ⟨c4, H⟩ := H
 have c4b0 : decide (0 ≤ t115) = true := decide_eq_true c4
 clear c4
 replace H := gd_ H; obtain ⟨c5, H⟩ := H
 have c5b0 : decide (t115 < (l1.length : Int)) = true := decide_eq_true c5
 clear c5
 simp only [Option.some.injEq, Prod.mk.injEq] at H
 obtain ⟨rfl, rfl, rfl⟩ := H
 go_enter Tryz.func97, Tryz.ntmps97
 go_wp2_with (first | ((with_reducible refine gc_ 61 rfl ?_); refine gL_ 9 Tryz.func61 #[.pointer (some ⟨g, 0, none⟩), .int .i64 (l1.length : Int)] ?_; (with_reducible refine (spec_l1Cur_pick.calls g s0_0 s0_1 s0_2 (l1.length : Int) t115 t116 t117 w0 _ ?side1 ?side2 A3.out).mono ?_); (case side1 => exact zc6_3_); (case side2 => exact zc6_2_); rintro e w6 ⟨rfl, hi, hb, hk⟩; refine ⟨_, rfl, ?_⟩; replace HK := Aside0.mk (KeepBut.trans z2_2_ hk (.inl rfl)); replace HB := Aside0.mk (hb); replace HI0 := Aside0.mk (hi); have p118 : 0 ≤ (t115 : Int) := of_decide_eq_true zS_; have q118 : t115 < (l1.length : Int) := of_decide_eq_true zS_; obtain ⟨ad118, e118, hx118_0⟩ := Kd.at_string HR1.out t115 p118 q118; cases e118; replace hx118_0 := keep_cell HK.out hx118_0 (by first | (rw [add_block]; exact hf1 _ rfl (by omega)) | exact hf1 _ rfl (by omega) | exact hf1 ad118 rfl (by omega)); replace p118 := eq_true p118; replace q118 := eq_true q118))
 go_ret
 exact ⟨zR_, by repeat (first | (with_reducible first | exact HI0.out | apply IsS74.alloc | apply IsS74.drewN | apply IsS74.drew | apply IsS74.set_1 | apply IsS74.set_2) | exact HI0.out), by repeat (first | (with_reducible first | exact HB.out | apply below_alloc | apply pw_below_drewN | apply below_drew1 | refine below_set ?_ (IsS74.ge HI0.out)) | exact HB.out), by repeat (first | (with_reducible first | exact HK.out | apply KeepBut.set_ | apply keep_drewN | apply keep_drew | apply keep_alloc) | exact HK.out)⟩

/-! ### spec_l1Num: function 99 -/
def spec_l1Num.f : Nat → Int → Option (ByteArray)
 | 0, _ => none
 | k + 1, a0 => if a0 < 10 then (some (strOfNums (([(wrap64 (48 + a0)) % 256] : List Int)))) else ((spec_l1Num.f k (wrap64 (Int.tdiv a0 10))).bind fun t122 => ((some (([(wrap64 (48 + (Int.tmod a0 10))) % 256] : List Int) : List Int)).bind fun y123 => (if t122.size + (strOfNums y123).size ≤ 9223372036854775807 then (some (t122 ++ (strOfNums y123))) else (none))))
theorem spec_l1Num.mono_l : ∀ k, (∀ y0, LeO (spec_l1Num.f k y0) (spec_l1Num.f (k + 1) y0))
 | 0 => fun _ r h => by simp [spec_l1Num.f] at h
 | k + 1 => by
  have ih0 := spec_l1Num.mono_l k
  intro y0
  unfold spec_l1Num.f
  repeat' first
  | (with_reducible exact ih0 _)
  | (with_reducible exact LeO.refl _)
  | (with_reducible exact LeO.none _)
  | (with_reducible refine LeO.ite ?_ ?_)
  | (with_reducible refine LeO.bind ?_ (fun _ => ?_))
  | exact LeO.none _
  | refine LeO.ite ?_ ?_
  | refine LeO.bind ?_ (fun _ => ?_)
theorem spec_l1Num.mono : ∀ a0 k, LeO (spec_l1Num.f k a0) (spec_l1Num.f (k + 1) a0) := by
 intro a0 k
 have ih0 := spec_l1Num.mono_l k
 exact ih0 a0
def spec_l1Num.T3 : Bool × List (List Nat × List Nat) := (true, [([], []), ([0], [0]), ([1], [1]), ([], []), ([3], [3]), ([4], [4]), ([5], [5]), ([6], [6]), ([7], [7]), ([2, 8], [2, 8]), ([9, 2, 0, 1, 2, 3, 4, 5, 6, 7, 8, 9], [9])])
def spec_l1Num.B3 : List Nat := [0, 1, 3, 0, 8, 24, 56, 120, 248, 511, 1023]
theorem spec_l1Num.tab3 : rtab .any (opsOf Tryz.f99 3) = spec_l1Num.T3 := by kernel_rfl
theorem spec_l1Num.bits3 : waitsOk spec_l1Num.T3.2 spec_l1Num.B3 = true := by kernel_rfl
set_option maxHeartbeats 8000000 in
set_option maxRecDepth 100000 in
theorem spec_l1Num.calls (k : Nat) : ∀ (a0 : Int) (r : ByteArray) (w : World) (h : spec_l1Num.f k a0 = some r),
 Calls Tryz.prog 99 #[.int .i64 a0] w fun e w' => e = .returned (.string r) ∧ Below w.heap.size w w' := by
 induction k using Nat.strongRecOn with
 | _ k ih =>
 intro a0 r w h
 cases k with
 | zero => exact absurd h (by simp [spec_l1Num.f])
 | succ k =>
 simp only [spec_l1Num.f] at h
 have HB := Aside0.mk (Below.refl w.heap.size w)
 have H : (if a0 < 10 then (some (strOfNums (([(wrap64 (48 + a0)) % 256] : List Int)))) else ((spec_l1Num.f k (wrap64 (Int.tdiv a0 10))).bind fun t122 => ((some (([(wrap64 (48 + (Int.tmod a0 10))) % 256] : List Int) : List Int)).bind fun y123 => (if t122.size + (strOfNums y123).size ≤ 9223372036854775807 then (some (t122 ++ (strOfNums y123))) else (none))))) = some r := h
 clear h
 by_cases c2 : a0 < 10
 · rw [if_pos c2] at H
   have c2b0 := decide_eq_true c2
   clear c2
   obtain ⟨y119, hy119⟩ : ∃ y_ : List Int, y_ = (([(wrap64 (48 + a0)) % 256] : List Int)) := ⟨_, rfl⟩
   replace H : (some (strOfNums y119)) = some r := by first | (rw [hy119]; with_reducible exact H) | (have H2_ := (Option.bind_some _ _).symm.trans H; rw [hy119]; with_reducible exact H2_) | (have H2_ := (Option.bind_some _ _).symm.trans H; with_reducible exact H2_) | with_reducible exact H | (rw [hy119]; exact H) | exact H
   have Ny119 := Aside0.mk hy119
   clear hy119
   obtain rfl := Option.some.inj H
   go_enter Tryz.func99, Tryz.ntmps99
   go_wp2_with (first | ((with_reducible refine gate_dst (N := 8) rfl ?_); refine Kd.R_lit (Kd.int .u8) _ 5 ?hg (N := 8) ?hd (xs := ([(wrap64 (48 + a0)) % 256] : List Int)) (inner := [.int .u8 ((wrap64 (48 + a0)) % 256)]) (ok := fun _ => True) (okp := fun _ => True) ?hr ?hp (fun _ hk => hk) trivial (Below.refl _ _) (Nat.le_refl _) (by simp) ?_; (case hd => rfl); (case hg => rfl); (case hr => exact zc6_5_); (case hp => exact (Reps.one (show Kd.M (Kd.int .u8) _ _ _ ((wrap64 (48 + a0)) % 256) [.int .u8 ((wrap64 (48 + a0)) % 256)] from rfl) (Reps.none _ _))); intro v120 w3 ho4 hb hg_ hnew_; clear hg_ hnew_; (first | rw [← Ny119.out] at ho4 | (simp only [Int.reduceToNat] at ho4; rw [← Ny119.out] at ho4)); have HO121 := Aside0.mk (Kd.R_lower ho4 (below_size zB_)); replace HB := Aside0.mk (below_step zB_ hb); clear hb ho4; have hcv5 := own_string (P := Tryz.prog) Tryz.underlying22 Tryz.underlying5 Tryz.underlying9 (Kd.own_of_R HO121.out)))
   go_ret
   exact ⟨zR_, zB_⟩
 rw [if_neg c2] at H
 have c2b0 := decide_eq_false c2
 clear c2
 replace H := bd_ H; obtain ⟨t122, A6, H⟩ := H
 obtain ⟨y123, hy123⟩ : ∃ y_ : List Int, y_ = (([(wrap64 (48 + (Int.tmod a0 10))) % 256] : List Int)) := ⟨_, rfl⟩
 replace H : (if t122.size + (strOfNums y123).size ≤ 9223372036854775807 then (some (t122 ++ (strOfNums y123))) else (none)) = some r := by first | (rw [hy123]; with_reducible exact H) | (have H2_ := (Option.bind_some _ _).symm.trans H; rw [hy123]; with_reducible exact H2_) | (have H2_ := (Option.bind_some _ _).symm.trans H; with_reducible exact H2_) | with_reducible exact H | (rw [hy123]; exact H) | exact H
 have Ny123 := Aside0.mk hy123
 clear hy123
 replace H := gd_ H; obtain ⟨c7, H⟩ := H
 have c7b0 := eq_true c7
 have c7b1 : decide (t122.size + (strOfNums y123).size ≤ 9223372036854775807) = true := decide_eq_true c7
 try have c7b2 : (9223372036854775807 < t122.size + (strOfNums y123).size) = False := eq_false (Nat.not_lt.2 c7)
 obtain rfl := Option.some.inj H
 go_enter Tryz.func99, Tryz.ntmps99
 try go_wp2
 replace HB := Aside0.mk (below_drew1 HB.out)
 refine start_ (n := 11) (S := fun w' => True) (ds := []) #[false, false, false, false, false, false, false, false, false, false, false] (by kernel_rfl) rfl rfl trivial (fun hHeld => ?_); refine with_tabW spec_l1Num.tab3 spec_l1Num.bits3 (fun HT_ HW_ => ?_)
 generalize w.drew = w8 at HB hHeld ⊢
 refine pq_ 0 10 ?_
 refine pq_ 1 11 ?_
 refine pq_ 3 13 ?_
 refine pq_ 4 14 ?_
 refine pq_ 5 15 ?_
 refine pq_ 6 16 ?_
 refine join_ (σ := Value) 2 #[true, true, true, true, true, true, true, true, true, false, false] (fun s_ => [(12, .string t122), (17, s_), (18, .string (strOfNums y123))]) (fun s_ w' => (Kd.R (Kd.int .u8) 5 w' w.heap.size (fun _ => True) s_ y123) ∧ (Below w.heap.size w w')) ?_ ?_
 rotate_left
 · intro hCont
   refine two_ (i := 2) (j := 7) (Ni := some 12) (Nj := some 17) #[true, true, true, true, true, true, true, false, false, false, false] #[true, true, false, true, true, true, true, true, false, false, false] rfl rfl rfl rfl (two_of HT_.out (by kernel_rfl)) (by decide) (by decide) (fun K hK => ?_) (fun K hK => ?_)
   · skip
     refine goes_ Tryz.func99 (by kernel_rfl) rfl #[.int .i64 (wrap64 (Int.tdiv a0 10))] (by rfl) rfl rfl z2_1_ ?_
     with_reducible refine (ih k (by omega) (wrap64 (Int.tdiv a0 10)) t122 _ A6.out).mono ?_
     rintro e w9 ⟨rfl, hb⟩
     refine ⟨_, rfl, ?_⟩
     replace HB := Aside0.mk (below_step zB_ hb)
     
     
     
     
     refine hK.out _ _ trivial (fun hHeld => ?_)
     clear hK K
     refine norm_ (a' := ?_) ?_ ?_
     rotate_left
     · show Act.put _ (some 12) _ = _
       simp only [Act.put, List.setIfInBounds_toArray, List.set_cons_zero, List.set_cons_succ, i64_w, i32_w]
       rfl
     refine one_ (i := 7) (N := some 17) #[true, true, true, true, true, true, true, true, false, false, false] rfl rfl (one_of HT_.out (by kernel_rfl)) (by decide) (fun K hK => ?_)
     refine Kd.R_lit_step (Kd.int .u8) _ 5 ?hg (N := 17) ?hd (xs := ([(wrap64 (48 + (Int.tmod a0 10))) % 256] : List Int)) (inner := [.int .u8 ((wrap64 (48 + (Int.tmod a0 10))) % 256)]) (ok := fun _ => True) (okp := fun _ => True) ?hr ?hp (fun _ hk => hk) trivial (Below.refl _ _) (Nat.le_refl _) (by simp) ?_; (case hd => rfl); (case hg => rfl); (case hr => exact zc6_5_); (case hp => exact zc6_4_)
     intro v124 w10 ho11 hb hg_ hnew_
     clear hg_ hnew_
     (first | rw [← Ny123.out] at ho11 | (simp only [Int.reduceToNat] at ho11; rw [← Ny123.out] at ho11))
     have HO125 := Aside0.mk (Kd.R_lower ho11 (below_size zB_))
     replace HB := Aside0.mk (below_step zB_ hb)
     clear hb ho11
     refine hK.out _ _ trivial (fun hHeld => ?_)
     clear hK K
     refine norm_ (a' := ?_) ?_ ?_
     rotate_left
     · show Act.put _ (some 17) _ = _
       simp only [Act.put, List.setIfInBounds_toArray, List.set_cons_zero, List.set_cons_succ, i64_w, i32_w]
       rfl
     refine one_ (i := 8) (N := some 18) #[true, true, true, true, true, true, true, true, true, false, false] rfl rfl (one_of HT_.out (by kernel_rfl)) (by decide) (fun K hK => ?_)
     have hcv12 := own_string (P := Tryz.prog) Tryz.underlying22 Tryz.underlying5 Tryz.underlying9 (Kd.own_of_R HO125.out)
     refine value_ (w1 := ?_) (v := ?_) (by rfl) rfl ?_ ?_
     rotate_left 2
     · go_simp
       constructor
       · rfl
       rfl
     clear hcv12
     refine hK.out _ _ trivial (fun hHeld => ?_)
     clear hK K
     refine norm_ (a' := ?_) ?_ ?_
     rotate_left
     · show Act.put _ (some 18) _ = _
       simp only [Act.put, List.setIfInBounds_toArray, List.set_cons_zero, List.set_cons_succ, i64_w, i32_w]
       rfl
     exact norm_ zq6_0_ (hCont (v124) _ ⟨z2_3_, zB_⟩)
   skip
   refine Kd.R_lit_step (Kd.int .u8) _ 5 ?hg (N := 17) ?hd (xs := ([(wrap64 (48 + (Int.tmod a0 10))) % 256] : List Int)) (inner := [.int .u8 ((wrap64 (48 + (Int.tmod a0 10))) % 256)]) (ok := fun _ => True) (okp := fun _ => True) ?hr ?hp (fun _ hk => hk) trivial (Below.refl _ _) (Nat.le_refl _) (by simp) ?_; (case hd => rfl); (case hg => rfl); (case hr => exact zc6_5_); (case hp => exact zc6_4_)
   intro v124 w9 ho10 hb hg_ hnew_
   clear hg_ hnew_
   (first | rw [← Ny123.out] at ho10 | (simp only [Int.reduceToNat] at ho10; rw [← Ny123.out] at ho10))
   have HO125 := Aside0.mk (Kd.R_lower ho10 (below_size zB_))
   replace HB := Aside0.mk (below_step zB_ hb)
   clear hb ho10
   refine hK.out _ _ trivial (fun hHeld => ?_)
   clear hK K
   refine norm_ (a' := ?_) ?_ ?_
   rotate_left
   · show Act.put _ (some 17) _ = _
     simp only [Act.put, List.setIfInBounds_toArray, List.set_cons_zero, List.set_cons_succ, i64_w, i32_w]
     rfl
   refine two_ (i := 2) (j := 8) (Ni := some 12) (Nj := some 18) #[true, true, true, true, true, true, true, true, false, false, false] #[true, true, false, true, true, true, true, true, true, false, false] rfl rfl rfl rfl (two_of HT_.out (by kernel_rfl)) (by decide) (by decide) (fun K hK => ?_) (fun K hK => ?_)
   · skip
     refine goes_ Tryz.func99 (by kernel_rfl) rfl #[.int .i64 (wrap64 (Int.tdiv a0 10))] (by rfl) rfl rfl z2_1_ ?_
     with_reducible refine (ih k (by omega) (wrap64 (Int.tdiv a0 10)) t122 _ A6.out).mono ?_
     rintro e w11 ⟨rfl, hb⟩
     refine ⟨_, rfl, ?_⟩
     replace HO125 := Aside0.mk (Kd.R_below z2_3_ hb)
     replace HB := Aside0.mk (below_step zB_ hb)
     
     
     
     
     refine hK.out _ _ trivial (fun hHeld => ?_)
     clear hK K
     refine norm_ (a' := ?_) ?_ ?_
     rotate_left
     · show Act.put _ (some 12) _ = _
       simp only [Act.put, List.setIfInBounds_toArray, List.set_cons_zero, List.set_cons_succ, i64_w, i32_w]
       rfl
     refine one_ (i := 8) (N := some 18) #[true, true, true, true, true, true, true, true, true, false, false] rfl rfl (one_of HT_.out (by kernel_rfl)) (by decide) (fun K hK => ?_)
     have hcv12 := own_string (P := Tryz.prog) Tryz.underlying22 Tryz.underlying5 Tryz.underlying9 (Kd.own_of_R HO125.out)
     refine value_ (w1 := ?_) (v := ?_) (by rfl) rfl ?_ ?_
     rotate_left 2
     · go_simp
       constructor
       · rfl
       rfl
     clear hcv12
     refine hK.out _ _ trivial (fun hHeld => ?_)
     clear hK K
     refine norm_ (a' := ?_) ?_ ?_
     rotate_left
     · show Act.put _ (some 18) _ = _
       simp only [Act.put, List.setIfInBounds_toArray, List.set_cons_zero, List.set_cons_succ, i64_w, i32_w]
       rfl
     exact norm_ zq6_0_ (hCont (v124) _ ⟨z2_3_, zB_⟩)
   skip
   have hcv11 := own_string (P := Tryz.prog) Tryz.underlying22 Tryz.underlying5 Tryz.underlying9 (Kd.own_of_R HO125.out)
   refine value_ (w1 := ?_) (v := ?_) (by rfl) rfl ?_ ?_
   rotate_left 2
   · go_simp
     constructor
     · rfl
     rfl
   clear hcv11
   refine hK.out _ _ trivial (fun hHeld => ?_)
   clear hK K
   refine norm_ (a' := ?_) ?_ ?_
   rotate_left
   · show Act.put _ (some 18) _ = _
     simp only [Act.put, List.setIfInBounds_toArray, List.set_cons_zero, List.set_cons_succ, i64_w, i32_w]
     rfl
   refine one_ (i := 2) (N := some 12) #[true, true, true, true, true, true, true, true, true, false, false] rfl rfl (one_of HT_.out (by kernel_rfl)) (by decide) (fun K hK => ?_)
   refine goes_ Tryz.func99 (by kernel_rfl) rfl #[.int .i64 (wrap64 (Int.tdiv a0 10))] (by rfl) rfl rfl z2_1_ ?_
   with_reducible refine (ih k (by omega) (wrap64 (Int.tdiv a0 10)) t122 _ A6.out).mono ?_
   rintro e w12 ⟨rfl, hb⟩
   refine ⟨_, rfl, ?_⟩
   replace HO125 := Aside0.mk (Kd.R_below z2_3_ hb)
   replace HB := Aside0.mk (below_step zB_ hb)
   
   
   
   
   refine hK.out _ _ trivial (fun hHeld => ?_)
   clear hK K
   refine norm_ (a' := ?_) ?_ ?_
   rotate_left
   · show Act.put _ (some 12) _ = _
     simp only [Act.put, List.setIfInBounds_toArray, List.set_cons_zero, List.set_cons_succ, i64_w, i32_w]
     rfl
   exact norm_ zq6_0_ (hCont (v124) _ ⟨z2_3_, zB_⟩)
 rintro v124 w13 ⟨h0_, h1_⟩
 have n0_ : Aside0 (Kd.R (Kd.int .u8) 5 w13 w.heap.size (fun _ => True) v124 y123) := ⟨h0_⟩
 have n1_ : Aside0 (Below w.heap.size w w13) := ⟨h1_⟩
 clear HB
 clear h0_ h1_
 have HO125 := n0_
 have HB := n1_
 clear n0_ n1_
 have hHeld := trivial
 refine norm_ (a' := ?_) ?_ ?_
 rotate_left
 · simp only [putAll, Act.put, List.setIfInBounds_toArray, List.set_cons_zero, List.set_cons_succ]
   rfl
 refine pq_ 9 19 ?_
 refine pq_ 10 2 ?_
 refine done_ (done_of HT_.out (by kernel_rfl)) ?_
 try go_wp2
 go_ret
 exact ⟨zR_, zB_⟩

/-! ### spec_l1Cur_sureTicket: function 98 -/
def spec_l1Cur_sureTicket.l0 : Nat → Int → ByteArray → Int → List Int → Int → Int → Option (ByteArray × Int × Int)
 | 0, _, _, _, _, _, _ => none
 | k + 1, x1, x5, x6, x1000, x1001, x1002 => if x6 < x1 then ((spec_l1Cur_pick.f x1000 x1001 x1002 10).bind fun bt126 => ((spec_l1Num.f k bt126.1).bind fun t129 => (if x5.size + t129.size ≤ 9223372036854775807 then (spec_l1Cur_sureTicket.l0 k x1 (x5 ++ t129) (wrap64 (x6 + 1)) x1000 bt126.2.1 bt126.2.2) else (none)))) else (some (x5, x1001, x1002))
def spec_l1Cur_sureTicket.f (k : Nat) (s0_0 : List Int) (s0_1 : Int) (s0_2 : Int) (a1 : Int) : Option (ByteArray × Int × Int) := spec_l1Cur_sureTicket.l0 k a1 (⟨#[]⟩ : ByteArray) 0 s0_0 s0_1 s0_2
theorem spec_l1Cur_sureTicket.mono_l : ∀ k, (∀ y0 y1 y2 y3 y4 y5, LeO (spec_l1Cur_sureTicket.l0 k y0 y1 y2 y3 y4 y5) (spec_l1Cur_sureTicket.l0 (k + 1) y0 y1 y2 y3 y4 y5))
 | 0 => fun _ _ _ _ _ _ r h => by simp [spec_l1Cur_sureTicket.l0] at h
 | k + 1 => by
  have ih0 := spec_l1Cur_sureTicket.mono_l k
  intro y0 y1 y2 y3 y4 y5
  unfold spec_l1Cur_sureTicket.l0
  repeat' first
  | (with_reducible exact ih0 _ _ _ _ _ _)
  | (with_reducible exact spec_l1Num.mono _ _)
  | (with_reducible exact LeO.refl _)
  | (with_reducible exact LeO.none _)
  | (with_reducible refine LeO.ite ?_ ?_)
  | (with_reducible refine LeO.bind ?_ (fun _ => ?_))
  | exact LeO.none _
  | refine LeO.ite ?_ ?_
  | refine LeO.bind ?_ (fun _ => ?_)
theorem spec_l1Cur_sureTicket.mono : ∀ a0 a1 a2 a3 k, LeO (spec_l1Cur_sureTicket.f k a0 a1 a2 a3) (spec_l1Cur_sureTicket.f (k + 1) a0 a1 a2 a3) := by
 intro a0 a1 a2 a3 k
 have ih0 := spec_l1Cur_sureTicket.mono_l k
 unfold spec_l1Cur_sureTicket.f
 repeat' first
  | (with_reducible exact ih0 _ _ _ _ _ _)
  | (with_reducible exact spec_l1Num.mono _ _)
  | (with_reducible exact LeO.refl _)
  | (with_reducible exact LeO.none _)
  | (with_reducible refine LeO.ite ?_ ?_)
  | (with_reducible refine LeO.bind ?_ (fun _ => ?_))
  | exact LeO.none _
  | refine LeO.ite ?_ ?_
  | refine LeO.bind ?_ (fun _ => ?_)
set_option maxHeartbeats 8000000 in
set_option maxRecDepth 100000 in
theorem spec_l1Cur_sureTicket.calls (k : Nat) (g : Nat) (s0_0 : List Int) (s0_1 : Int) (s0_2 : Int) (a1 : Int) (r1 : ByteArray) (r2 : Int) (r3 : Int) (w0 w : World) (hI : IsS74 w0 w g s0_0 s0_1 s0_2) (hB : Below w0.heap.size w0 w) (h : spec_l1Cur_sureTicket.f k s0_0 s0_1 s0_2 a1 = some (r1, r2, r3)) :
 Calls Tryz.prog 98 #[.pointer (some ⟨g, 0, none⟩), .int .i64 a1] w fun e w' => e = .returned (.string r1) ∧ IsS74 w0 w' g s0_0 r2 r3 ∧ Below w0.heap.size w0 w' ∧ KeepBut w w' g none := by
 have HI0 := Aside0.mk hI
 have HK := Aside0.mk (KeepBut.refl w g none)
 have HL := Aside0.mk hB.size
 clear hI
 have HW0 := Aside0.mk hB.size
 have HB := Aside0.mk hB
 clear hB
 unfold spec_l1Cur_sureTicket.f at h
 have H := h
 clear h
 have H' := Aside0.mk H
 clear H
 go_enter Tryz.func98, Tryz.ntmps98
 go_wp2
 go_loopg [5, 6] k (fun kq v5 v6 w' => ∃ (x5_1 : ByteArray) (x6_1 : Int) (x1001_1 : Int) (x1002_1 : Int), v5 = .string x5_1 ∧ v6 = .int .i64 x6_1 ∧ Aside0 (spec_l1Cur_sureTicket.l0 kq a1 x5_1 x6_1 s0_0 x1001_1 x1002_1 = some (r1, r2, r3)) ∧ Aside0 (kq ≤ k) ∧ Aside0 (IsS74 w0 w' g s0_0 x1001_1 x1002_1) ∧ Aside0 (KeepBut w w' g none) ∧ Aside0 (Below w0.heap.size w0 w'))
 case atStart => exact ⟨((⟨#[]⟩ : ByteArray)), (0), (s0_1), (s0_2), zV_, zV_, H', ⟨Nat.le_refl _⟩, ⟨by repeat (first | (with_reducible first | exact HI0.out | apply IsS74.alloc | apply IsS74.drewN | apply IsS74.drew | apply IsS74.set_1 | apply IsS74.set_2) | exact HI0.out)⟩, ⟨by repeat (first | (with_reducible first | exact HK.out | apply KeepBut.set_ | apply keep_drewN | apply keep_drew | apply keep_alloc) | exact HK.out)⟩, ⟨by repeat (first | (with_reducible first | exact HB.out | apply below_alloc | apply pw_below_drewN | apply below_drew1 | refine below_set ?_ (IsS74.ge HI0.out)) | exact HB.out)⟩⟩
 case round =>
  clear H'
  try clear p2
  obtain ⟨x5_1, x6_1, x1001_1, x1002_1, rfl, rfl, HA, HK1, HI0, HK, HB⟩ := hrel
  cases gk with
  | zero => exact absurd HA.out (by simp [spec_l1Cur_sureTicket.l0])
  | succ k1 =>
   have H := HA.out
   clear HA
   simp only [spec_l1Cur_sureTicket.l0] at H
   by_cases c3 : x6_1 < a1
   · rw [if_pos c3] at H
     have c3b0 := decide_eq_true c3
     clear c3
     replace H := bd_ H; obtain ⟨⟨t126, t127, t128⟩, A4, H⟩ := H
     dsimp only at H
     replace H := bd_ H; obtain ⟨t129, A5, H⟩ := H
     replace H := gd_ H; obtain ⟨c6, H⟩ := H
     have c6b0 := eq_true c6
     have c6b1 : decide (x5_1.size + t129.size ≤ 9223372036854775807) = true := decide_eq_true c6
     try have c6b2 : (9223372036854775807 < x5_1.size + t129.size) = False := eq_false (Nat.not_lt.2 c6)
     have H' := Aside0.mk H
     clear H
     go_wp2_with (first | ((with_reducible refine gc_ 61 rfl ?_); refine gL_ 14 Tryz.func61 #[.pointer (some ⟨g, 0, none⟩), .int .i64 10] ?_; (with_reducible refine (spec_l1Cur_pick.calls g s0_0 x1001_1 x1002_1 10 t126 t127 t128 w0 _ ?side1 ?side2 A4.out).mono ?_); (case side1 => exact zc6_3_); (case side2 => exact zc6_2_); rintro e w7 ⟨rfl, hi, hb, hk⟩; refine ⟨_, rfl, ?_⟩; replace HK := Aside0.mk (KeepBut.trans z2_2_ hk (.inl rfl)); replace HB := Aside0.mk (hb); replace HI0 := Aside0.mk (hi)) | ((with_reducible refine gc_ 99 rfl ?_); refine gL_ 15 Tryz.func99 #[.int .i64 t126] ?_; (with_reducible refine (spec_l1Num.calls k1 t126 t129 _ A5.out).mono ?_); rintro e w8 ⟨rfl, hb⟩; refine ⟨_, rfl, ?_⟩; replace HK := Aside0.mk (KeepBut.trans z2_2_ (KeepBut.of_below hb g none) (.inl rfl)); replace HB := Aside0.mk (below_step (by repeat (first | (with_reducible first | exact HB.out | apply below_alloc | apply pw_below_drewN | apply below_drew1 | refine below_set ?_ (IsS74.ge HI0.out)) | exact HB.out)) hb); replace HI0 := Aside0.mk (IsS74.below (by repeat (first | (with_reducible first | exact HI0.out | apply IsS74.alloc | apply IsS74.drewN | apply IsS74.drew | apply IsS74.set_1 | apply IsS74.set_2) | exact HI0.out)) hb)))
     go_roundg k1
     case measure => have := HK1.out; omega
     case rel => exact ⟨(x5_1 ++ t129), (wrap64 (x6_1 + 1)), (t127), (t128), zV_, zV_, H', ⟨by have := HK1.out; omega⟩, ⟨by repeat (first | (with_reducible first | exact HI0.out | apply IsS74.alloc | apply IsS74.drewN | apply IsS74.drew | apply IsS74.set_1 | apply IsS74.set_2) | exact HI0.out)⟩, ⟨by repeat (first | (with_reducible first | exact HK.out | apply KeepBut.set_ | apply keep_drewN | apply keep_drew | apply keep_alloc) | exact HK.out)⟩, ⟨by repeat (first | (with_reducible first | exact HB.out | apply below_alloc | apply pw_below_drewN | apply below_drew1 | refine below_set ?_ (IsS74.ge HI0.out)) | exact HB.out)⟩⟩
   rw [if_neg c3] at H
   have c3b0 := decide_eq_false c3
   clear c3
   simp only [Option.some.injEq, Prod.mk.injEq] at H
   obtain ⟨rfl, rfl, rfl⟩ := H
   go_wp2
   go_ret
   exact ⟨zR_, by repeat (first | (with_reducible first | exact HI0.out | apply IsS74.alloc | apply IsS74.drewN | apply IsS74.drew | apply IsS74.set_1 | apply IsS74.set_2) | exact HI0.out), by repeat (first | (with_reducible first | exact HB.out | apply below_alloc | apply pw_below_drewN | apply below_drew1 | refine below_set ?_ (IsS74.ge HI0.out)) | exact HB.out), by repeat (first | (with_reducible first | exact HK.out | apply KeepBut.set_ | apply keep_drewN | apply keep_drew | apply keep_alloc) | exact HK.out)⟩

theorem z3_0_ {p : Prop} (h : p := by (try simp only [List.map_toArray, List.map_cons, List.map_nil]); first | done | rfl | (simp only [List.length_drop, List.length_take]; rfl)) : p := h
theorem z3_1_ {p : Prop} (h : p := by repeat (first | (with_reducible first | exact HK.out | apply KeepBut.set_ | apply keep_drewN | apply keep_drew | apply keep_alloc) | exact HK.out)) : p := h
theorem z3_4_ {p : Prop} (h : p := by repeat (first | (with_reducible first | exact HB.out | apply below_alloc | apply pw_below_drewN | apply below_drew1 | refine below_set ?_ (IsS74.ge HI164.out)) | exact HB.out)) : p := h
theorem z3_5_ {p : Prop} (h : p := by repeat (first | (with_reducible first | exact HB.out | apply below_alloc | apply pw_below_drewN | apply below_drew1 | refine below_set ?_ (IsS74.ge HI0.out)) | exact HB.out)) : p := h
theorem z3_6_ {p : Prop} (h : p := by repeat (first | (with_reducible first | exact HI0.out | apply IsS74.alloc | apply IsS74.drewN | apply IsS74.drew | apply IsS74.set_1 | apply IsS74.set_2) | exact HI0.out)) : p := h
theorem z3_8_ {p : Prop} (h : p := by exact rr_ HO173.out) : p := h

/-! ### spec_l1Cur_ticket: function 58 -/
mutual
def spec_l1Cur_ticket.j0 : Nat → Bool → List Int → Int → Int → Option (ByteArray × Int × Int)
 | 0, _, _, _, _ => none
 | k + 1, x18, x1000, x1001, x1002 => if x18 = true then ((spec_l1Cur_pick.f x1000 x1001 x1002 3).bind fun bt145 => ((spec_l1Cur_sureTicket.f k x1000 bt145.2.1 bt145.2.2 (wrap64 (1 + bt145.1))).bind fun bt148 => (spec_l1Cur_ticket.l0 k bt148.1 (⟨#[]⟩ : ByteArray) (wrap64 ((bt148.1.size : Int) - 1)) x1000 bt148.2.1 bt148.2.2))) else ((spec_l1Cur_among.f x1000 x1001 x1002 (([2, 4, 6, 4, 6, 8] : List Int))).bind fun bt154 => ((spec_l1Cur_sureTicket.f k x1000 bt154.2.1 bt154.2.2 bt154.1).bind fun bt157 => (some (bt157.1, bt157.2.1, bt157.2.2))))
def spec_l1Cur_ticket.l0 : Nat → ByteArray → ByteArray → Int → List Int → Int → Int → Option (ByteArray × Int × Int)
 | 0, _, _, _, _, _, _ => none
 | k + 1, x3, x4, x5, x1000, x1001, x1002 => if x5 ≥ 0 then (if 0 ≤ x5 then (if x5 ≤ (wrap64 (x5 + 1)) then (if (wrap64 (x5 + 1)) ≤ (x3.size : Int) then (if x4.size + (x3.extract (x5 : Int).toNat ((wrap64 (x5 + 1)) : Int).toNat).size ≤ 9223372036854775807 then (spec_l1Cur_ticket.l0 k x3 (x4 ++ (x3.extract (x5 : Int).toNat ((wrap64 (x5 + 1)) : Int).toNat)) (wrap64 (x5 - 1)) x1000 x1001 x1002) else (none)) else (none)) else (none)) else (none)) else (if x3.size + x4.size ≤ 9223372036854775807 then (some (x3 ++ x4, x1001, x1002)) else (none))
end
def spec_l1Cur_ticket.f (k : Nat) (s0_0 : List Int) (s0_1 : Int) (s0_2 : Int) : Option (ByteArray × Int × Int) := (spec_l1Cur_pick.f s0_0 s0_1 s0_2 16).bind fun bt130 => (if bt130.1 = 0 then ((spec_l1Cur_of.f s0_0 bt130.2.1 bt130.2.2 (([(⟨#[]⟩ : ByteArray), (⟨#[49]⟩ : ByteArray), (⟨#[49, 50, 120, 52]⟩ : ByteArray), (⟨#[49, 50, 51]⟩ : ByteArray), (⟨#[48, 48, 48, 48, 48, 48, 48, 48, 48, 48, 48, 48, 48]⟩ : ByteArray), (⟨#[57, 57, 57, 57, 57, 57, 57, 57, 57, 57, 57, 57]⟩ : ByteArray), (⟨#[48, 48, 48, 48, 48, 48, 48, 48, 48, 48, 48, 48, 48, 48]⟩ : ByteArray)] : List ByteArray))).bind fun bt136 => (some (bt136.1, bt136.2.1, bt136.2.2))) else (if bt130.1 = 1 then ((spec_l1Cur_of.f s0_0 bt130.2.1 bt130.2.2 (([(⟨#[48, 48, 48, 48, 48, 48]⟩ : ByteArray), (⟨#[57, 57, 57, 57, 57, 57]⟩ : ByteArray), (⟨#[48, 48, 48, 48]⟩ : ByteArray), (⟨#[57, 57, 57, 57]⟩ : ByteArray), (⟨#[48, 48]⟩ : ByteArray), (⟨#[57, 57]⟩ : ByteArray), (⟨#[57, 57, 57, 48]⟩ : ByteArray), (⟨#[48, 48, 48, 48, 48, 49]⟩ : ByteArray)] : List ByteArray))).bind fun bt142 => (some (bt142.1, bt142.2.1, bt142.2.2))) else (if bt130.1 = 2 then (spec_l1Cur_ticket.j0 k (bt130.1 == 2) s0_0 bt130.2.1 bt130.2.2) else (if bt130.1 = 3 then (spec_l1Cur_ticket.j0 k (bt130.1 == 3) s0_0 bt130.2.1 bt130.2.2) else (spec_l1Cur_ticket.j0 k (bt130.1 == 4) s0_0 bt130.2.1 bt130.2.2)))))
theorem spec_l1Cur_ticket.mono_l : ∀ k, (∀ y0 y1 y2 y3, LeO (spec_l1Cur_ticket.j0 k y0 y1 y2 y3) (spec_l1Cur_ticket.j0 (k + 1) y0 y1 y2 y3)) ∧ (∀ y0 y1 y2 y3 y4 y5, LeO (spec_l1Cur_ticket.l0 k y0 y1 y2 y3 y4 y5) (spec_l1Cur_ticket.l0 (k + 1) y0 y1 y2 y3 y4 y5))
 | 0 => ⟨fun _ _ _ _ r h => by simp [spec_l1Cur_ticket.j0] at h, fun _ _ _ _ _ _ r h => by simp [spec_l1Cur_ticket.l0] at h⟩
 | k + 1 => by
  obtain ⟨ih0, ih1⟩ := spec_l1Cur_ticket.mono_l k
  refine ⟨?_, ?_⟩
  · intro y0 y1 y2 y3
    unfold spec_l1Cur_ticket.j0
    repeat' first
    | (with_reducible exact ih0 _ _ _ _)
    | (with_reducible exact ih1 _ _ _ _ _ _)
    | (with_reducible exact spec_l1Cur_sureTicket.mono _ _ _ _ _)
    | (with_reducible exact LeO.refl _)
    | (with_reducible exact LeO.none _)
    | (with_reducible refine LeO.ite ?_ ?_)
    | (with_reducible refine LeO.bind ?_ (fun _ => ?_))
    | exact LeO.none _
    | refine LeO.ite ?_ ?_
    | refine LeO.bind ?_ (fun _ => ?_)
  intro y0 y1 y2 y3 y4 y5
  unfold spec_l1Cur_ticket.l0
  repeat' first
  | (with_reducible exact ih0 _ _ _ _)
  | (with_reducible exact ih1 _ _ _ _ _ _)
  | (with_reducible exact spec_l1Cur_sureTicket.mono _ _ _ _ _)
  | (with_reducible exact LeO.refl _)
  | (with_reducible exact LeO.none _)
  | (with_reducible refine LeO.ite ?_ ?_)
  | (with_reducible refine LeO.bind ?_ (fun _ => ?_))
  | exact LeO.none _
  | refine LeO.ite ?_ ?_
  | refine LeO.bind ?_ (fun _ => ?_)
theorem spec_l1Cur_ticket.mono : ∀ a0 a1 a2 k, LeO (spec_l1Cur_ticket.f k a0 a1 a2) (spec_l1Cur_ticket.f (k + 1) a0 a1 a2) := by
 intro a0 a1 a2 k
 obtain ⟨ih0, ih1⟩ := spec_l1Cur_ticket.mono_l k
 unfold spec_l1Cur_ticket.f
 repeat' first
  | (with_reducible exact ih0 _ _ _ _)
  | (with_reducible exact ih1 _ _ _ _ _ _)
  | (with_reducible exact spec_l1Cur_sureTicket.mono _ _ _ _ _)
  | (with_reducible exact LeO.refl _)
  | (with_reducible exact LeO.none _)
  | (with_reducible refine LeO.ite ?_ ?_)
  | (with_reducible refine LeO.bind ?_ (fun _ => ?_))
  | exact LeO.none _
  | refine LeO.ite ?_ ?_
  | refine LeO.bind ?_ (fun _ => ?_)
set_option maxHeartbeats 8000000 in
set_option maxRecDepth 100000 in
theorem spec_l1Cur_ticket.calls (k : Nat) (g : Nat) (s0_0 : List Int) (s0_1 : Int) (s0_2 : Int) (r1 : ByteArray) (r2 : Int) (r3 : Int) (w0 w : World) (hI : IsS74 w0 w g s0_0 s0_1 s0_2) (hB : Below w0.heap.size w0 w) (h : spec_l1Cur_ticket.f k s0_0 s0_1 s0_2 = some (r1, r2, r3)) :
 Calls Tryz.prog 58 #[.pointer (some ⟨g, 0, none⟩)] w fun e w' => e = .returned (.string r1) ∧ IsS74 w0 w' g s0_0 r2 r3 ∧ Below w0.heap.size w0 w' ∧ KeepBut w w' g none := by
 have HI0 := Aside0.mk hI
 have HK := Aside0.mk (KeepBut.refl w g none)
 have HL := Aside0.mk hB.size
 clear hI
 have HW0 := Aside0.mk hB.size
 have HB := Aside0.mk hB
 clear hB
 unfold spec_l1Cur_ticket.f at h
 have H := h
 clear h
 replace H := bd_ H; obtain ⟨⟨t130, t131, t132⟩, A2, H⟩ := H
 dsimp only at H
 by_cases c3 : t130 = 0
 · obtain ⟨H, c3b0, c3b1⟩ := ep_ c3 H
   clear c3
   obtain ⟨y133, hy133⟩ : ∃ y_ : List ByteArray, y_ = (([(⟨#[]⟩ : ByteArray), (⟨#[49]⟩ : ByteArray), (⟨#[49, 50, 120, 52]⟩ : ByteArray), (⟨#[49, 50, 51]⟩ : ByteArray), (⟨#[48, 48, 48, 48, 48, 48, 48, 48, 48, 48, 48, 48, 48]⟩ : ByteArray), (⟨#[57, 57, 57, 57, 57, 57, 57, 57, 57, 57, 57, 57]⟩ : ByteArray), (⟨#[48, 48, 48, 48, 48, 48, 48, 48, 48, 48, 48, 48, 48, 48]⟩ : ByteArray)] : List ByteArray)) := ⟨_, rfl⟩
   replace H : ((spec_l1Cur_of.f s0_0 t131 t132 y133).bind fun bt136 => (some (bt136.1, bt136.2.1, bt136.2.2))) = some (r1, r2, r3) := by first | (rw [hy133]; with_reducible exact H) | (have H2_ := (Option.bind_some _ _).symm.trans H; rw [hy133]; with_reducible exact H2_) | (have H2_ := (Option.bind_some _ _).symm.trans H; with_reducible exact H2_) | with_reducible exact H | (rw [hy133]; exact H) | exact H
   have Ny133 := Aside0.mk hy133
   clear hy133
   replace H := bd_ H; obtain ⟨⟨t136, t137, t138⟩, A4, H⟩ := H
   dsimp only at H
   simp only [Option.some.injEq, Prod.mk.injEq] at H
   obtain ⟨rfl, rfl, rfl⟩ := H
   go_enter Tryz.func58, Tryz.ntmps58
   go_wp2_with (first | ((with_reducible refine gc_ 61 rfl ?_); refine gL_ 7 Tryz.func61 #[.pointer (some ⟨g, 0, none⟩), .int .i64 16] ?_; (with_reducible refine (spec_l1Cur_pick.calls g s0_0 s0_1 s0_2 16 t130 t131 t132 w0 _ ?side1 ?side2 A2.out).mono ?_); (case side1 => exact zc6_3_); (case side2 => exact zc6_2_); rintro e w5 ⟨rfl, hi, hb, hk⟩; refine ⟨_, rfl, ?_⟩; replace HK := Aside0.mk (KeepBut.trans z3_1_ hk (.inl rfl)); replace HB := Aside0.mk (hb); replace HI0 := Aside0.mk (hi)) | ((with_reducible refine gate_dst (N := 11) rfl ?_); refine Kd.R_lit Kd.string _ 9 ?hg (N := 11) ?hd (xs := ([(⟨#[]⟩ : ByteArray), (⟨#[49]⟩ : ByteArray), (⟨#[49, 50, 120, 52]⟩ : ByteArray), (⟨#[49, 50, 51]⟩ : ByteArray), (⟨#[48, 48, 48, 48, 48, 48, 48, 48, 48, 48, 48, 48, 48]⟩ : ByteArray), (⟨#[57, 57, 57, 57, 57, 57, 57, 57, 57, 57, 57, 57]⟩ : ByteArray), (⟨#[48, 48, 48, 48, 48, 48, 48, 48, 48, 48, 48, 48, 48, 48]⟩ : ByteArray)] : List ByteArray)) (inner := [.string (⟨#[]⟩ : ByteArray), .string (⟨#[49]⟩ : ByteArray), .string (⟨#[49, 50, 120, 52]⟩ : ByteArray), .string (⟨#[49, 50, 51]⟩ : ByteArray), .string (⟨#[48, 48, 48, 48, 48, 48, 48, 48, 48, 48, 48, 48, 48]⟩ : ByteArray), .string (⟨#[57, 57, 57, 57, 57, 57, 57, 57, 57, 57, 57, 57]⟩ : ByteArray), .string (⟨#[48, 48, 48, 48, 48, 48, 48, 48, 48, 48, 48, 48, 48, 48]⟩ : ByteArray)]) (ok := fun _ => True) (okp := fun _ => True) ?hr ?hp (fun _ hk => hk) trivial (Below.refl _ _) (Nat.le_refl _) (by simp) ?_; (case hd => rfl); (case hg => rfl); (case hr => exact zc6_5_); (case hp => exact (Reps.one (show Kd.M Kd.string _ _ _ (⟨#[]⟩ : ByteArray) [.string (⟨#[]⟩ : ByteArray)] from rfl) (Reps.one (show Kd.M Kd.string _ _ _ (⟨#[49]⟩ : ByteArray) [.string (⟨#[49]⟩ : ByteArray)] from rfl) (Reps.one (show Kd.M Kd.string _ _ _ (⟨#[49, 50, 120, 52]⟩ : ByteArray) [.string (⟨#[49, 50, 120, 52]⟩ : ByteArray)] from rfl) (Reps.one (show Kd.M Kd.string _ _ _ (⟨#[49, 50, 51]⟩ : ByteArray) [.string (⟨#[49, 50, 51]⟩ : ByteArray)] from rfl) (Reps.one (show Kd.M Kd.string _ _ _ (⟨#[48, 48, 48, 48, 48, 48, 48, 48, 48, 48, 48, 48, 48]⟩ : ByteArray) [.string (⟨#[48, 48, 48, 48, 48, 48, 48, 48, 48, 48, 48, 48, 48]⟩ : ByteArray)] from rfl) (Reps.one (show Kd.M Kd.string _ _ _ (⟨#[57, 57, 57, 57, 57, 57, 57, 57, 57, 57, 57, 57]⟩ : ByteArray) [.string (⟨#[57, 57, 57, 57, 57, 57, 57, 57, 57, 57, 57, 57]⟩ : ByteArray)] from rfl) (Reps.one (show Kd.M Kd.string _ _ _ (⟨#[48, 48, 48, 48, 48, 48, 48, 48, 48, 48, 48, 48, 48, 48]⟩ : ByteArray) [.string (⟨#[48, 48, 48, 48, 48, 48, 48, 48, 48, 48, 48, 48, 48, 48]⟩ : ByteArray)] from rfl) (Reps.none _ _))))))))); intro v134 w6 ho7 hb hg_ hnew_; clear hg_ hnew_; (first | rw [← Ny133.out] at ho7 | (simp only [Int.reduceToNat] at ho7; rw [← Ny133.out] at ho7)); have HO135 := Aside0.mk (Kd.R_lower ho7 (keep_size (w := w) (g := g) (row := none) z3_1_)); replace HK := Aside0.mk (KeepBut.trans z3_1_ (KeepBut.of_below hb g none) (.inl rfl)); replace HB := Aside0.mk (below_step z3_5_ hb); replace HI0 := Aside0.mk (IsS74.below z3_6_ hb); clear hb ho7; obtain ⟨Ao8, co8, eo8⟩ := Kd.R_slice HO135.out; subst eo8) | ((with_reducible refine gc_ 97 rfl ?_); refine gL_ 12 Tryz.func97 #[.pointer (some ⟨g, 0, none⟩), .slice Ao8 y133.length co8] ?_; (with_reducible refine (spec_l1Cur_of.calls g s0_0 t131 t132 _ _ y133 t136 t137 t138 w0 _ ?side1 ?side2 ?side3 ?side4 ?side5 A4.out).mono ?_); (case side1 => exact zc6_3_); (case side2 => exact zc6_2_); (case side3 => repeat (first | exact (Kd.R_reads' HO135.out).2.2 | (with_reducible refine Kd.C_alloc ?_ _) | (with_reducible refine Kd.C_drewN ?_ _) | (with_reducible refine Kd.C_drew ?_))); (case side4 => exact (Kd.R_reads' HO135.out).2.1); (case side5 => exact far_slice (IsS74.own_ne HI0.out HO135.out (by decide))); rintro e w9 ⟨rfl, hi, hb, hk⟩; refine ⟨_, rfl, ?_⟩; replace HO135 := Aside0.mk (Kd.R_mono (Kd.R_keep (IsS74.apart (show IsS74 w0 _ g s0_0 t131 t132 from by repeat (first | (with_reducible first | exact HI0.out | apply IsS74.alloc | apply IsS74.drewN | apply IsS74.drew | apply IsS74.set_1 | apply IsS74.set_2) | exact HI0.out)) (rr_ HO135.out) (by decide)) hk (fun _ h => h.2)) (fun _ h => h.1)); replace HK := Aside0.mk (KeepBut.trans z3_1_ hk (.inl rfl)); replace HB := Aside0.mk (hb); replace HI0 := Aside0.mk (hi)))
   go_ret
   exact ⟨zR_, by repeat (first | (with_reducible first | exact HI0.out | apply IsS74.alloc | apply IsS74.drewN | apply IsS74.drew | apply IsS74.set_1 | apply IsS74.set_2) | exact HI0.out), by repeat (first | (with_reducible first | exact HB.out | apply below_alloc | apply pw_below_drewN | apply below_drew1 | refine below_set ?_ (IsS74.ge HI0.out)) | exact HB.out), by repeat (first | (with_reducible first | exact HK.out | apply KeepBut.set_ | apply keep_drewN | apply keep_drew | apply keep_alloc) | exact HK.out)⟩
 obtain ⟨H, c3b0, c3b1⟩ := en_ c3 H
 by_cases c10 : t130 = 1
 · obtain ⟨H, c10b0, c10b1⟩ := ep_ c10 H
   clear c10
   obtain ⟨y139, hy139⟩ : ∃ y_ : List ByteArray, y_ = (([(⟨#[48, 48, 48, 48, 48, 48]⟩ : ByteArray), (⟨#[57, 57, 57, 57, 57, 57]⟩ : ByteArray), (⟨#[48, 48, 48, 48]⟩ : ByteArray), (⟨#[57, 57, 57, 57]⟩ : ByteArray), (⟨#[48, 48]⟩ : ByteArray), (⟨#[57, 57]⟩ : ByteArray), (⟨#[57, 57, 57, 48]⟩ : ByteArray), (⟨#[48, 48, 48, 48, 48, 49]⟩ : ByteArray)] : List ByteArray)) := ⟨_, rfl⟩
   replace H : ((spec_l1Cur_of.f s0_0 t131 t132 y139).bind fun bt142 => (some (bt142.1, bt142.2.1, bt142.2.2))) = some (r1, r2, r3) := by first | (rw [hy139]; with_reducible exact H) | (have H2_ := (Option.bind_some _ _).symm.trans H; rw [hy139]; with_reducible exact H2_) | (have H2_ := (Option.bind_some _ _).symm.trans H; with_reducible exact H2_) | with_reducible exact H | (rw [hy139]; exact H) | exact H
   have Ny139 := Aside0.mk hy139
   clear hy139
   replace H := bd_ H; obtain ⟨⟨t142, t143, t144⟩, A11, H⟩ := H
   dsimp only at H
   simp only [Option.some.injEq, Prod.mk.injEq] at H
   obtain ⟨rfl, rfl, rfl⟩ := H
   go_enter Tryz.func58, Tryz.ntmps58
   go_wp2_with (first | ((with_reducible refine gc_ 61 rfl ?_); refine gL_ 7 Tryz.func61 #[.pointer (some ⟨g, 0, none⟩), .int .i64 16] ?_; (with_reducible refine (spec_l1Cur_pick.calls g s0_0 s0_1 s0_2 16 t130 t131 t132 w0 _ ?side1 ?side2 A2.out).mono ?_); (case side1 => exact zc6_3_); (case side2 => exact zc6_2_); rintro e w12 ⟨rfl, hi, hb, hk⟩; refine ⟨_, rfl, ?_⟩; replace HK := Aside0.mk (KeepBut.trans z3_1_ hk (.inl rfl)); replace HB := Aside0.mk (hb); replace HI0 := Aside0.mk (hi)) | ((with_reducible refine gate_dst (N := 16) rfl ?_); refine Kd.R_lit Kd.string _ 9 ?hg (N := 16) ?hd (xs := ([(⟨#[48, 48, 48, 48, 48, 48]⟩ : ByteArray), (⟨#[57, 57, 57, 57, 57, 57]⟩ : ByteArray), (⟨#[48, 48, 48, 48]⟩ : ByteArray), (⟨#[57, 57, 57, 57]⟩ : ByteArray), (⟨#[48, 48]⟩ : ByteArray), (⟨#[57, 57]⟩ : ByteArray), (⟨#[57, 57, 57, 48]⟩ : ByteArray), (⟨#[48, 48, 48, 48, 48, 49]⟩ : ByteArray)] : List ByteArray)) (inner := [.string (⟨#[48, 48, 48, 48, 48, 48]⟩ : ByteArray), .string (⟨#[57, 57, 57, 57, 57, 57]⟩ : ByteArray), .string (⟨#[48, 48, 48, 48]⟩ : ByteArray), .string (⟨#[57, 57, 57, 57]⟩ : ByteArray), .string (⟨#[48, 48]⟩ : ByteArray), .string (⟨#[57, 57]⟩ : ByteArray), .string (⟨#[57, 57, 57, 48]⟩ : ByteArray), .string (⟨#[48, 48, 48, 48, 48, 49]⟩ : ByteArray)]) (ok := fun _ => True) (okp := fun _ => True) ?hr ?hp (fun _ hk => hk) trivial (Below.refl _ _) (Nat.le_refl _) (by simp) ?_; (case hd => rfl); (case hg => rfl); (case hr => exact zc6_5_); (case hp => exact (Reps.one (show Kd.M Kd.string _ _ _ (⟨#[48, 48, 48, 48, 48, 48]⟩ : ByteArray) [.string (⟨#[48, 48, 48, 48, 48, 48]⟩ : ByteArray)] from rfl) (Reps.one (show Kd.M Kd.string _ _ _ (⟨#[57, 57, 57, 57, 57, 57]⟩ : ByteArray) [.string (⟨#[57, 57, 57, 57, 57, 57]⟩ : ByteArray)] from rfl) (Reps.one (show Kd.M Kd.string _ _ _ (⟨#[48, 48, 48, 48]⟩ : ByteArray) [.string (⟨#[48, 48, 48, 48]⟩ : ByteArray)] from rfl) (Reps.one (show Kd.M Kd.string _ _ _ (⟨#[57, 57, 57, 57]⟩ : ByteArray) [.string (⟨#[57, 57, 57, 57]⟩ : ByteArray)] from rfl) (Reps.one (show Kd.M Kd.string _ _ _ (⟨#[48, 48]⟩ : ByteArray) [.string (⟨#[48, 48]⟩ : ByteArray)] from rfl) (Reps.one (show Kd.M Kd.string _ _ _ (⟨#[57, 57]⟩ : ByteArray) [.string (⟨#[57, 57]⟩ : ByteArray)] from rfl) (Reps.one (show Kd.M Kd.string _ _ _ (⟨#[57, 57, 57, 48]⟩ : ByteArray) [.string (⟨#[57, 57, 57, 48]⟩ : ByteArray)] from rfl) (Reps.one (show Kd.M Kd.string _ _ _ (⟨#[48, 48, 48, 48, 48, 49]⟩ : ByteArray) [.string (⟨#[48, 48, 48, 48, 48, 49]⟩ : ByteArray)] from rfl) (Reps.none _ _)))))))))); intro v140 w13 ho14 hb hg_ hnew_; clear hg_ hnew_; (first | rw [← Ny139.out] at ho14 | (simp only [Int.reduceToNat] at ho14; rw [← Ny139.out] at ho14)); have HO141 := Aside0.mk (Kd.R_lower ho14 (keep_size (w := w) (g := g) (row := none) z3_1_)); replace HK := Aside0.mk (KeepBut.trans z3_1_ (KeepBut.of_below hb g none) (.inl rfl)); replace HB := Aside0.mk (below_step z3_5_ hb); replace HI0 := Aside0.mk (IsS74.below z3_6_ hb); clear hb ho14; obtain ⟨Ao15, co15, eo15⟩ := Kd.R_slice HO141.out; subst eo15) | ((with_reducible refine gc_ 97 rfl ?_); refine gL_ 17 Tryz.func97 #[.pointer (some ⟨g, 0, none⟩), .slice Ao15 y139.length co15] ?_; (with_reducible refine (spec_l1Cur_of.calls g s0_0 t131 t132 _ _ y139 t142 t143 t144 w0 _ ?side1 ?side2 ?side3 ?side4 ?side5 A11.out).mono ?_); (case side1 => exact zc6_3_); (case side2 => exact zc6_2_); (case side3 => repeat (first | exact (Kd.R_reads' HO141.out).2.2 | (with_reducible refine Kd.C_alloc ?_ _) | (with_reducible refine Kd.C_drewN ?_ _) | (with_reducible refine Kd.C_drew ?_))); (case side4 => exact (Kd.R_reads' HO141.out).2.1); (case side5 => exact far_slice (IsS74.own_ne HI0.out HO141.out (by decide))); rintro e w16 ⟨rfl, hi, hb, hk⟩; refine ⟨_, rfl, ?_⟩; replace HO141 := Aside0.mk (Kd.R_mono (Kd.R_keep (IsS74.apart (show IsS74 w0 _ g s0_0 t131 t132 from by repeat (first | (with_reducible first | exact HI0.out | apply IsS74.alloc | apply IsS74.drewN | apply IsS74.drew | apply IsS74.set_1 | apply IsS74.set_2) | exact HI0.out)) (rr_ HO141.out) (by decide)) hk (fun _ h => h.2)) (fun _ h => h.1)); replace HK := Aside0.mk (KeepBut.trans z3_1_ hk (.inl rfl)); replace HB := Aside0.mk (hb); replace HI0 := Aside0.mk (hi)))
   go_ret
   exact ⟨zR_, by repeat (first | (with_reducible first | exact HI0.out | apply IsS74.alloc | apply IsS74.drewN | apply IsS74.drew | apply IsS74.set_1 | apply IsS74.set_2) | exact HI0.out), by repeat (first | (with_reducible first | exact HB.out | apply below_alloc | apply pw_below_drewN | apply below_drew1 | refine below_set ?_ (IsS74.ge HI0.out)) | exact HB.out), by repeat (first | (with_reducible first | exact HK.out | apply KeepBut.set_ | apply keep_drewN | apply keep_drew | apply keep_alloc) | exact HK.out)⟩
 obtain ⟨H, c10b0, c10b1⟩ := en_ c10 H
 have HC17 := Aside0.mk H
 clear H
 go_enter Tryz.func58, Tryz.ntmps58
 go_upto_if 18 with (first | ((with_reducible refine gc_ 61 rfl ?_); refine gL_ 7 Tryz.func61 #[.pointer (some ⟨g, 0, none⟩), .int .i64 16] ?_; (with_reducible refine (spec_l1Cur_pick.calls g s0_0 s0_1 s0_2 16 t130 t131 t132 w0 _ ?side1 ?side2 A2.out).mono ?_); (case side1 => exact zc6_3_); (case side2 => exact zc6_2_); rintro e w18 ⟨rfl, hi, hb, hk⟩; refine ⟨_, rfl, ?_⟩; replace HK := Aside0.mk (KeepBut.trans z3_1_ hk (.inl rfl)); replace HB := Aside0.mk (hb); replace HI0 := Aside0.mk (hi)))
 (try simp only [Act.put, List.setIfInBounds_toArray, List.set_cons_zero, List.set_cons_succ])
 go_cut [18] (fun v18 wc => ∃ (kq : Nat) (x18_16 : Bool), v18 = .bool x18_16 ∧ Aside0 (spec_l1Cur_ticket.j0 kq x18_16 s0_0 t131 t132 = some (r1, r2, r3)) ∧ Aside0 (kq ≤ k) ∧ Aside0 (IsS74 w0 wc g s0_0 t131 t132) ∧ Aside0 (KeepBut w wc g none) ∧ Aside0 (Below w0.heap.size w0 wc))
 case first =>
  have H := HC17.out
  clear HC17
  by_cases c19 : t130 = 2
  · obtain ⟨H, c19b0, c19b1⟩ := ep_ c19 H
    clear c19
    (first | rw [c19b0] | (simp only [i64_w, i32_w]; rw [c19b0]) | skip)
    have H' := Aside0.mk H
    clear H
    go_wp2
    go_meet
    case rel => exact ⟨_, ((t130 == 2)), zV_, H', ⟨by first | omega | exact Nat.le_refl _⟩, ⟨by repeat (first | (with_reducible first | exact HI0.out | apply IsS74.alloc | apply IsS74.drewN | apply IsS74.drew | apply IsS74.set_1 | apply IsS74.set_2) | exact HI0.out)⟩, ⟨by repeat (first | (with_reducible first | exact HK.out | apply KeepBut.set_ | apply keep_drewN | apply keep_drew | apply keep_alloc) | exact HK.out)⟩, ⟨by repeat (first | (with_reducible first | exact HB.out | apply below_alloc | apply pw_below_drewN | apply below_drew1 | refine below_set ?_ (IsS74.ge HI0.out)) | exact HB.out)⟩⟩
  obtain ⟨H, c19b0, c19b1⟩ := en_ c19 H
  (first | rw [c19b0] | (simp only [i64_w, i32_w]; rw [c19b0]) | skip)
  by_cases c20 : t130 = 3
  · obtain ⟨H, c20b0, c20b1⟩ := ep_ c20 H
    clear c20
    have H' := Aside0.mk H
    clear H
    go_wp2
    go_meet
    case rel => exact ⟨_, ((t130 == 3)), zV_, H', ⟨by first | omega | exact Nat.le_refl _⟩, ⟨by repeat (first | (with_reducible first | exact HI0.out | apply IsS74.alloc | apply IsS74.drewN | apply IsS74.drew | apply IsS74.set_1 | apply IsS74.set_2) | exact HI0.out)⟩, ⟨by repeat (first | (with_reducible first | exact HK.out | apply KeepBut.set_ | apply keep_drewN | apply keep_drew | apply keep_alloc) | exact HK.out)⟩, ⟨by repeat (first | (with_reducible first | exact HB.out | apply below_alloc | apply pw_below_drewN | apply below_drew1 | refine below_set ?_ (IsS74.ge HI0.out)) | exact HB.out)⟩⟩
  obtain ⟨H, c20b0, c20b1⟩ := en_ c20 H
  have H' := Aside0.mk H
  clear H
  go_wp2
  go_meet
  case rel => exact ⟨_, ((t130 == 4)), zV_, H', ⟨by first | omega | exact Nat.le_refl _⟩, ⟨by repeat (first | (with_reducible first | exact HI0.out | apply IsS74.alloc | apply IsS74.drewN | apply IsS74.drew | apply IsS74.set_1 | apply IsS74.set_2) | exact HI0.out)⟩, ⟨by repeat (first | (with_reducible first | exact HK.out | apply KeepBut.set_ | apply keep_drewN | apply keep_drew | apply keep_alloc) | exact HK.out)⟩, ⟨by repeat (first | (with_reducible first | exact HB.out | apply below_alloc | apply pw_below_drewN | apply below_drew1 | refine below_set ?_ (IsS74.ge HI0.out)) | exact HB.out)⟩⟩
 case rest =>
  clear HC17
  obtain ⟨kq, x18_16, rfl, HA, HJ16, HI0, HK, HB⟩ := hcut
  cases kq with
  | zero => exact absurd HA.out (by simp [spec_l1Cur_ticket.j0])
  | succ kj16 =>
   have H := HA.out
   clear HA
   simp only [spec_l1Cur_ticket.j0] at H
   by_cases c21 : x18_16 = true
   · subst c21
     rw [if_pos rfl] at H
     replace H := bd_ H; obtain ⟨⟨t145, t146, t147⟩, A22, H⟩ := H
     dsimp only at H
     replace H := bd_ H; obtain ⟨⟨t148, t149, t150⟩, A23, H⟩ := H
     dsimp only at H
     have H' := Aside0.mk H
     clear H
     go_wp2_with (first | ((with_reducible refine gc_ 61 rfl ?_); refine gL_ 24 Tryz.func61 #[.pointer (some ⟨g, 0, none⟩), .int .i64 3] ?_; (with_reducible refine (spec_l1Cur_pick.calls g s0_0 t131 t132 3 t145 t146 t147 w0 _ ?side1 ?side2 A22.out).mono ?_); (case side1 => exact zc6_3_); (case side2 => exact zc6_2_); rintro e w24 ⟨rfl, hi, hb, hk⟩; refine ⟨_, rfl, ?_⟩; replace HK := Aside0.mk (KeepBut.trans z3_1_ hk (.inl rfl)); replace HB := Aside0.mk (hb); replace HI0 := Aside0.mk (hi)) | ((with_reducible refine gc_ 98 rfl ?_); refine gL_ 26 Tryz.func98 #[.pointer (some ⟨g, 0, none⟩), .int .i64 (wrap64 (1 + t145))] ?_; (with_reducible refine (spec_l1Cur_sureTicket.calls kj16 g s0_0 t146 t147 (wrap64 (1 + t145)) t148 t149 t150 w0 _ ?side1 ?side2 A23.out).mono ?_); (case side1 => exact zc6_3_); (case side2 => exact zc6_2_); rintro e w25 ⟨rfl, hi, hb, hk⟩; refine ⟨_, rfl, ?_⟩; replace HK := Aside0.mk (KeepBut.trans z3_1_ hk (.inl rfl)); replace HB := Aside0.mk (hb); replace HI0 := Aside0.mk (hi)))
     go_loopg [4, 5] kj16 (fun kq v4 v5 w' => ∃ (x4_2 : ByteArray) (x5_2 : Int), v4 = .string x4_2 ∧ v5 = .int .i64 x5_2 ∧ Aside0 (spec_l1Cur_ticket.l0 kq t148 x4_2 x5_2 s0_0 t149 t150 = some (r1, r2, r3)) ∧ Aside0 (kq ≤ kj16) ∧ Aside0 (IsS74 w0 w' g s0_0 t149 t150) ∧ Aside0 (KeepBut w w' g none) ∧ Aside0 (Below w0.heap.size w0 w'))
     case atStart => exact ⟨((⟨#[]⟩ : ByteArray)), (wrap64 ((t148.size : Int) - 1)), zV_, zV_, H', ⟨Nat.le_refl _⟩, ⟨by repeat (first | (with_reducible first | exact HI0.out | apply IsS74.alloc | apply IsS74.drewN | apply IsS74.drew | apply IsS74.set_1 | apply IsS74.set_2) | exact HI0.out)⟩, ⟨by repeat (first | (with_reducible first | exact HK.out | apply KeepBut.set_ | apply keep_drewN | apply keep_drew | apply keep_alloc) | exact HK.out)⟩, ⟨by repeat (first | (with_reducible first | exact HB.out | apply below_alloc | apply pw_below_drewN | apply below_drew1 | refine below_set ?_ (IsS74.ge HI0.out)) | exact HB.out)⟩⟩
     case round =>
      clear H'
      obtain ⟨x4_2, x5_2, rfl, rfl, HA, HK2, HI0, HK, HB⟩ := hrel
      cases gk with
      | zero => exact absurd HA.out (by simp [spec_l1Cur_ticket.l0])
      | succ k2 =>
       have H := HA.out
       clear HA
       simp only [spec_l1Cur_ticket.l0] at H
       by_cases c26 : x5_2 ≥ 0
       · rw [if_pos c26] at H
         have c26b0 : decide (0 ≤ x5_2) = true := decide_eq_true c26
         clear c26
         replace H := gd_ H; obtain ⟨c27, H⟩ := H
         have c27b0 := eq_true c27
         have c27b1 : decide (0 ≤ x5_2) = true := decide_eq_true c27
         clear c27
         replace H := gd_ H; obtain ⟨c28, H⟩ := H
         have c28b0 := eq_true c28
         have c28b1 : decide (x5_2 ≤ (wrap64 (x5_2 + 1))) = true := decide_eq_true c28
         replace H := gd_ H; obtain ⟨c29, H⟩ := H
         have c29b0 := eq_true c29
         have c29b1 : decide ((wrap64 (x5_2 + 1)) ≤ (t148.size : Int)) = true := decide_eq_true c29
         replace H := gd_ H; obtain ⟨c30, H⟩ := H
         have c30b0 := eq_true c30
         have c30b1 : decide (x4_2.size + (t148.extract (x5_2 : Int).toNat ((wrap64 (x5_2 + 1)) : Int).toNat).size ≤ 9223372036854775807) = true := decide_eq_true c30
         try have c30b2 : (9223372036854775807 < x4_2.size + (t148.extract (x5_2 : Int).toNat ((wrap64 (x5_2 + 1)) : Int).toNat).size) = False := eq_false (Nat.not_lt.2 c30)
         have H' := Aside0.mk H
         clear H
         go_wp2
         go_roundg k2
         case measure => have := HJ16.out; have := HK2.out; omega
         case rel => exact ⟨(x4_2 ++ (t148.extract (x5_2 : Int).toNat ((wrap64 (x5_2 + 1)) : Int).toNat)), (wrap64 (x5_2 - 1)), zV_, zV_, H', ⟨by have := HJ16.out; have := HK2.out; omega⟩, ⟨by repeat (first | (with_reducible first | exact HI0.out | apply IsS74.alloc | apply IsS74.drewN | apply IsS74.drew | apply IsS74.set_1 | apply IsS74.set_2) | exact HI0.out)⟩, ⟨by repeat (first | (with_reducible first | exact HK.out | apply KeepBut.set_ | apply keep_drewN | apply keep_drew | apply keep_alloc) | exact HK.out)⟩, ⟨by repeat (first | (with_reducible first | exact HB.out | apply below_alloc | apply pw_below_drewN | apply below_drew1 | refine below_set ?_ (IsS74.ge HI0.out)) | exact HB.out)⟩⟩
       rw [if_neg c26] at H
       have c26b0 : decide (0 ≤ x5_2) = false := decide_eq_false c26
       clear c26
       replace H := gd_ H; obtain ⟨c31, H⟩ := H
       have c31b0 := eq_true c31
       have c31b1 : decide (t148.size + x4_2.size ≤ 9223372036854775807) = true := decide_eq_true c31
       try have c31b2 : (9223372036854775807 < t148.size + x4_2.size) = False := eq_false (Nat.not_lt.2 c31)
       simp only [Option.some.injEq, Prod.mk.injEq] at H
       obtain ⟨rfl, rfl, rfl⟩ := H
       go_wp2
       go_ret
       exact ⟨zR_, by repeat (first | (with_reducible first | exact HI0.out | apply IsS74.alloc | apply IsS74.drewN | apply IsS74.drew | apply IsS74.set_1 | apply IsS74.set_2) | exact HI0.out), by repeat (first | (with_reducible first | exact HB.out | apply below_alloc | apply pw_below_drewN | apply below_drew1 | refine below_set ?_ (IsS74.ge HI0.out)) | exact HB.out), by repeat (first | (with_reducible first | exact HK.out | apply KeepBut.set_ | apply keep_drewN | apply keep_drew | apply keep_alloc) | exact HK.out)⟩
   replace H := bf_ c21 H; obtain ⟨rfl, H⟩ := H
   obtain ⟨y151, hy151⟩ : ∃ y_ : List Int, y_ = (([2, 4, 6, 4, 6, 8] : List Int)) := ⟨_, rfl⟩
   replace H : ((spec_l1Cur_among.f s0_0 t131 t132 y151).bind fun bt154 => ((spec_l1Cur_sureTicket.f kj16 s0_0 bt154.2.1 bt154.2.2 bt154.1).bind fun bt157 => (some (bt157.1, bt157.2.1, bt157.2.2)))) = some (r1, r2, r3) := by first | (rw [hy151]; with_reducible exact H) | (have H2_ := (Option.bind_some _ _).symm.trans H; rw [hy151]; with_reducible exact H2_) | (have H2_ := (Option.bind_some _ _).symm.trans H; with_reducible exact H2_) | with_reducible exact H | (rw [hy151]; exact H) | exact H
   have Ny151 := Aside0.mk hy151
   clear hy151
   replace H := bd_ H; obtain ⟨⟨t154, t155, t156⟩, A32, H⟩ := H
   dsimp only at H
   replace H := bd_ H; obtain ⟨⟨t157, t158, t159⟩, A33, H⟩ := H
   dsimp only at H
   simp only [Option.some.injEq, Prod.mk.injEq] at H
   obtain ⟨rfl, rfl, rfl⟩ := H
   go_wp2_with (first | ((with_reducible refine gate_dst (N := 46) rfl ?_); refine Kd.R_lit (Kd.int .i64) _ 3 ?hg (N := 46) ?hd (xs := ([2, 4, 6, 4, 6, 8] : List Int)) (inner := [.int .i64 2, .int .i64 4, .int .i64 6, .int .i64 4, .int .i64 6, .int .i64 8]) (ok := fun _ => True) (okp := fun _ => True) ?hr ?hp (fun _ hk => hk) trivial (Below.refl _ _) (Nat.le_refl _) (by simp) ?_; (case hd => rfl); (case hg => rfl); (case hr => exact zc6_5_); (case hp => exact (Reps.one (show Kd.M (Kd.int .i64) _ _ _ 2 [.int .i64 2] from rfl) (Reps.one (show Kd.M (Kd.int .i64) _ _ _ 4 [.int .i64 4] from rfl) (Reps.one (show Kd.M (Kd.int .i64) _ _ _ 6 [.int .i64 6] from rfl) (Reps.one (show Kd.M (Kd.int .i64) _ _ _ 4 [.int .i64 4] from rfl) (Reps.one (show Kd.M (Kd.int .i64) _ _ _ 6 [.int .i64 6] from rfl) (Reps.one (show Kd.M (Kd.int .i64) _ _ _ 8 [.int .i64 8] from rfl) (Reps.none _ _)))))))); intro v152 w34 ho35 hb hg_ hnew_; clear hg_ hnew_; (first | rw [← Ny151.out] at ho35 | (simp only [Int.reduceToNat] at ho35; rw [← Ny151.out] at ho35)); have HO153 := Aside0.mk (Kd.R_lower ho35 (keep_size (w := w) (g := g) (row := none) z3_1_)); replace HK := Aside0.mk (KeepBut.trans z3_1_ (KeepBut.of_below hb g none) (.inl rfl)); replace HB := Aside0.mk (below_step z3_5_ hb); replace HI0 := Aside0.mk (IsS74.below z3_6_ hb); clear hb ho35; obtain ⟨Ao36, co36, eo36⟩ := Kd.R_slice HO153.out; subst eo36) | ((with_reducible refine gc_ 59 rfl ?_); refine gL_ 47 Tryz.func59 #[.pointer (some ⟨g, 0, none⟩), .slice Ao36 y151.length co36] ?_; (with_reducible refine (spec_l1Cur_among.calls g s0_0 t131 t132 _ _ y151 t154 t155 t156 w0 _ ?side1 ?side2 ?side3 ?side4 ?side5 A32.out).mono ?_); (case side1 => exact zc6_3_); (case side2 => exact zc6_2_); (case side3 => repeat (first | exact (Kd.R_reads' HO153.out).2.2 | (with_reducible refine Kd.C_alloc ?_ _) | (with_reducible refine Kd.C_drewN ?_ _) | (with_reducible refine Kd.C_drew ?_))); (case side4 => exact (Kd.R_reads' HO153.out).2.1); (case side5 => exact far_slice (IsS74.own_ne HI0.out HO153.out (by decide))); rintro e w37 ⟨rfl, hi, hb, hk⟩; refine ⟨_, rfl, ?_⟩; replace HO153 := Aside0.mk (Kd.R_mono (Kd.R_keep (IsS74.apart (show IsS74 w0 _ g s0_0 t131 t132 from by repeat (first | (with_reducible first | exact HI0.out | apply IsS74.alloc | apply IsS74.drewN | apply IsS74.drew | apply IsS74.set_1 | apply IsS74.set_2) | exact HI0.out)) zq6_3_ (by decide)) hk (fun _ h => h.2)) (fun _ h => h.1)); replace HK := Aside0.mk (KeepBut.trans z3_1_ hk (.inl rfl)); replace HB := Aside0.mk (hb); replace HI0 := Aside0.mk (hi)) | ((with_reducible refine gc_ 98 rfl ?_); refine gL_ 48 Tryz.func98 #[.pointer (some ⟨g, 0, none⟩), .int .i64 t154] ?_; (with_reducible refine (spec_l1Cur_sureTicket.calls kj16 g s0_0 t155 t156 t154 t157 t158 t159 w0 _ ?side1 ?side2 A33.out).mono ?_); (case side1 => exact zc6_3_); (case side2 => exact zc6_2_); rintro e w38 ⟨rfl, hi, hb, hk⟩; refine ⟨_, rfl, ?_⟩; replace HO153 := Aside0.mk (Kd.R_mono (Kd.R_keep (IsS74.apart (show IsS74 w0 _ g s0_0 t155 t156 from by repeat (first | (with_reducible first | exact HI0.out | apply IsS74.alloc | apply IsS74.drewN | apply IsS74.drew | apply IsS74.set_1 | apply IsS74.set_2) | exact HI0.out)) zq6_3_ (by decide)) hk (fun _ h => h.2)) (fun _ h => h.1)); replace HK := Aside0.mk (KeepBut.trans z3_1_ hk (.inl rfl)); replace HB := Aside0.mk (hb); replace HI0 := Aside0.mk (hi)))
   go_ret
   exact ⟨zR_, by repeat (first | (with_reducible first | exact HI0.out | apply IsS74.alloc | apply IsS74.drewN | apply IsS74.drew | apply IsS74.set_1 | apply IsS74.set_2) | exact HI0.out), by repeat (first | (with_reducible first | exact HB.out | apply below_alloc | apply pw_below_drewN | apply below_drew1 | refine below_set ?_ (IsS74.ge HI0.out)) | exact HB.out), by repeat (first | (with_reducible first | exact HK.out | apply KeepBut.set_ | apply keep_drewN | apply keep_drew | apply keep_alloc) | exact HK.out)⟩

/-! ### spec_l1Cur_hidden: function 60 -/
def spec_l1Cur_hidden.l0 : Nat → ByteArray → List Int → Int → Int → Option (ByteArray × Int × Int)
 | 0, _, _, _, _ => none
 | k + 1, x3, x1000, x1001, x1002 => if (x3.size : Int) < 4 then ((spec_l1Cur_pick.f x1000 x1001 x1002 6).bind fun bt160 => ((spec_l1Num.f k bt160.1).bind fun t163 => (if x3.size + t163.size ≤ 9223372036854775807 then (spec_l1Cur_hidden.l0 k (x3 ++ t163) x1000 bt160.2.1 bt160.2.2) else (none)))) else (some (x3, x1001, x1002))
def spec_l1Cur_hidden.f (k : Nat) (s0_0 : List Int) (s0_1 : Int) (s0_2 : Int) : Option (ByteArray × Int × Int) := spec_l1Cur_hidden.l0 k (⟨#[]⟩ : ByteArray) s0_0 s0_1 s0_2
theorem spec_l1Cur_hidden.mono_l : ∀ k, (∀ y0 y1 y2 y3, LeO (spec_l1Cur_hidden.l0 k y0 y1 y2 y3) (spec_l1Cur_hidden.l0 (k + 1) y0 y1 y2 y3))
 | 0 => fun _ _ _ _ r h => by simp [spec_l1Cur_hidden.l0] at h
 | k + 1 => by
  have ih0 := spec_l1Cur_hidden.mono_l k
  intro y0 y1 y2 y3
  unfold spec_l1Cur_hidden.l0
  repeat' first
  | (with_reducible exact ih0 _ _ _ _)
  | (with_reducible exact spec_l1Num.mono _ _)
  | (with_reducible exact LeO.refl _)
  | (with_reducible exact LeO.none _)
  | (with_reducible refine LeO.ite ?_ ?_)
  | (with_reducible refine LeO.bind ?_ (fun _ => ?_))
  | exact LeO.none _
  | refine LeO.ite ?_ ?_
  | refine LeO.bind ?_ (fun _ => ?_)
theorem spec_l1Cur_hidden.mono : ∀ a0 a1 a2 k, LeO (spec_l1Cur_hidden.f k a0 a1 a2) (spec_l1Cur_hidden.f (k + 1) a0 a1 a2) := by
 intro a0 a1 a2 k
 have ih0 := spec_l1Cur_hidden.mono_l k
 unfold spec_l1Cur_hidden.f
 repeat' first
  | (with_reducible exact ih0 _ _ _ _)
  | (with_reducible exact spec_l1Num.mono _ _)
  | (with_reducible exact LeO.refl _)
  | (with_reducible exact LeO.none _)
  | (with_reducible refine LeO.ite ?_ ?_)
  | (with_reducible refine LeO.bind ?_ (fun _ => ?_))
  | exact LeO.none _
  | refine LeO.ite ?_ ?_
  | refine LeO.bind ?_ (fun _ => ?_)
set_option maxHeartbeats 8000000 in
set_option maxRecDepth 100000 in
theorem spec_l1Cur_hidden.calls (k : Nat) (g : Nat) (s0_0 : List Int) (s0_1 : Int) (s0_2 : Int) (r1 : ByteArray) (r2 : Int) (r3 : Int) (w0 w : World) (hI : IsS74 w0 w g s0_0 s0_1 s0_2) (hB : Below w0.heap.size w0 w) (h : spec_l1Cur_hidden.f k s0_0 s0_1 s0_2 = some (r1, r2, r3)) :
 Calls Tryz.prog 60 #[.pointer (some ⟨g, 0, none⟩)] w fun e w' => e = .returned (.string r1) ∧ IsS74 w0 w' g s0_0 r2 r3 ∧ Below w0.heap.size w0 w' ∧ KeepBut w w' g none := by
 have HI0 := Aside0.mk hI
 have HK := Aside0.mk (KeepBut.refl w g none)
 have HL := Aside0.mk hB.size
 clear hI
 have HW0 := Aside0.mk hB.size
 have HB := Aside0.mk hB
 clear hB
 unfold spec_l1Cur_hidden.f at h
 have H := h
 clear h
 have H' := Aside0.mk H
 clear H
 go_enter Tryz.func60, Tryz.ntmps60
 go_wp2
 go_loopg [3] k (fun kq v3 w' => ∃ (x3_1 : ByteArray) (x1001_1 : Int) (x1002_1 : Int), v3 = .string x3_1 ∧ Aside0 (spec_l1Cur_hidden.l0 kq x3_1 s0_0 x1001_1 x1002_1 = some (r1, r2, r3)) ∧ Aside0 (kq ≤ k) ∧ Aside0 (IsS74 w0 w' g s0_0 x1001_1 x1002_1) ∧ Aside0 (KeepBut w w' g none) ∧ Aside0 (Below w0.heap.size w0 w'))
 case atStart => exact ⟨((⟨#[]⟩ : ByteArray)), (s0_1), (s0_2), zV_, H', ⟨Nat.le_refl _⟩, ⟨by repeat (first | (with_reducible first | exact HI0.out | apply IsS74.alloc | apply IsS74.drewN | apply IsS74.drew | apply IsS74.set_1 | apply IsS74.set_2) | exact HI0.out)⟩, ⟨by repeat (first | (with_reducible first | exact HK.out | apply KeepBut.set_ | apply keep_drewN | apply keep_drew | apply keep_alloc) | exact HK.out)⟩, ⟨by repeat (first | (with_reducible first | exact HB.out | apply below_alloc | apply pw_below_drewN | apply below_drew1 | refine below_set ?_ (IsS74.ge HI0.out)) | exact HB.out)⟩⟩
 case round =>
  clear H'
  obtain ⟨x3_1, x1001_1, x1002_1, rfl, HA, HK1, HI0, HK, HB⟩ := hrel
  cases gk with
  | zero => exact absurd HA.out (by simp [spec_l1Cur_hidden.l0])
  | succ k1 =>
   have H := HA.out
   clear HA
   simp only [spec_l1Cur_hidden.l0] at H
   by_cases c2 : (x3_1.size : Int) < 4
   · rw [if_pos c2] at H
     have c2b0 := decide_eq_true c2
     have c2b1 : decide (x3_1.size < 4) = true := decide_eq_true (by omega)
     clear c2
     replace H := bd_ H; obtain ⟨⟨t160, t161, t162⟩, A3, H⟩ := H
     dsimp only at H
     replace H := bd_ H; obtain ⟨t163, A4, H⟩ := H
     replace H := gd_ H; obtain ⟨c5, H⟩ := H
     have c5b0 := eq_true c5
     have c5b1 : decide (x3_1.size + t163.size ≤ 9223372036854775807) = true := decide_eq_true c5
     try have c5b2 : (9223372036854775807 < x3_1.size + t163.size) = False := eq_false (Nat.not_lt.2 c5)
     have H' := Aside0.mk H
     clear H
     go_wp2_with (first | ((with_reducible refine gc_ 61 rfl ?_); refine gL_ 9 Tryz.func61 #[.pointer (some ⟨g, 0, none⟩), .int .i64 6] ?_; (with_reducible refine (spec_l1Cur_pick.calls g s0_0 x1001_1 x1002_1 6 t160 t161 t162 w0 _ ?side1 ?side2 A3.out).mono ?_); (case side1 => exact zc6_3_); (case side2 => exact zc6_2_); rintro e w6 ⟨rfl, hi, hb, hk⟩; refine ⟨_, rfl, ?_⟩; replace HK := Aside0.mk (KeepBut.trans z3_1_ hk (.inl rfl)); replace HB := Aside0.mk (hb); replace HI0 := Aside0.mk (hi)) | ((with_reducible refine gc_ 99 rfl ?_); refine gL_ 10 Tryz.func99 #[.int .i64 t160] ?_; (with_reducible refine (spec_l1Num.calls k1 t160 t163 _ A4.out).mono ?_); rintro e w7 ⟨rfl, hb⟩; refine ⟨_, rfl, ?_⟩; replace HK := Aside0.mk (KeepBut.trans z3_1_ (KeepBut.of_below hb g none) (.inl rfl)); replace HB := Aside0.mk (below_step z3_5_ hb); replace HI0 := Aside0.mk (IsS74.below z3_6_ hb)))
     go_roundg k1
     case measure => have := HK1.out; omega
     case rel => exact ⟨(x3_1 ++ t163), (t161), (t162), zV_, H', ⟨by have := HK1.out; omega⟩, ⟨by repeat (first | (with_reducible first | exact HI0.out | apply IsS74.alloc | apply IsS74.drewN | apply IsS74.drew | apply IsS74.set_1 | apply IsS74.set_2) | exact HI0.out)⟩, ⟨by repeat (first | (with_reducible first | exact HK.out | apply KeepBut.set_ | apply keep_drewN | apply keep_drew | apply keep_alloc) | exact HK.out)⟩, ⟨by repeat (first | (with_reducible first | exact HB.out | apply below_alloc | apply pw_below_drewN | apply below_drew1 | refine below_set ?_ (IsS74.ge HI0.out)) | exact HB.out)⟩⟩
   rw [if_neg c2] at H
   have c2b0 := decide_eq_false c2
   have c2b1 : decide (x3_1.size < 4) = false := decide_eq_false (by omega)
   clear c2
   simp only [Option.some.injEq, Prod.mk.injEq] at H
   obtain ⟨rfl, rfl, rfl⟩ := H
   go_wp2
   go_ret
   exact ⟨zR_, by repeat (first | (with_reducible first | exact HI0.out | apply IsS74.alloc | apply IsS74.drewN | apply IsS74.drew | apply IsS74.set_1 | apply IsS74.set_2) | exact HI0.out), by repeat (first | (with_reducible first | exact HB.out | apply below_alloc | apply pw_below_drewN | apply below_drew1 | refine below_set ?_ (IsS74.ge HI0.out)) | exact HB.out), by repeat (first | (with_reducible first | exact HK.out | apply KeepBut.set_ | apply keep_drewN | apply keep_drew | apply keep_alloc) | exact HK.out)⟩

/-! ### spec_DrawMakePuzzle: function 6 -/
def spec_DrawMakePuzzle.f (k : Nat) (l0 : List Int) : Option (ByteArray × Int × Int) := (spec_l1Cur_one.f l0 0 0 12).bind fun bt165 => (if bt165.1 = true then ((spec_l1Cur_ticket.f k l0 bt165.2.1 bt165.2.2).bind fun bt168 => ((spec_l1Cur_among.f l0 bt168.2.1 bt168.2.2 (([(-1), 6, 7] : List Int))).bind fun bt174 => ((spec_l1Cur_among.f l0 bt174.2.1 bt174.2.2 (([(-1), 9999, 10000] : List Int))).bind fun bt180 => (some (bt168.1, bt174.1, bt180.1))))) else ((spec_l1Cur_hidden.f k l0 bt165.2.1 bt165.2.2).bind fun bt183 => ((spec_l1Cur_pick.f l0 bt183.2.1 bt183.2.2 7).bind fun bt186 => ((spec_l1Cur_pick.f l0 bt186.2.1 bt186.2.2 10000).bind fun bt189 => (some (bt183.1, bt186.1, bt189.1))))))
theorem spec_DrawMakePuzzle.mono : ∀ a0 k, LeO (spec_DrawMakePuzzle.f k a0) (spec_DrawMakePuzzle.f (k + 1) a0) := by
 intro a0 k
 unfold spec_DrawMakePuzzle.f
 have m1_ := @spec_l1Cur_hidden.mono
 have m2_ := @spec_l1Cur_ticket.mono
 exact zM_
set_option maxHeartbeats 8000000 in
set_option maxRecDepth 100000 in
theorem spec_DrawMakePuzzle.calls (k : Nat) (A0 : Option Addr) (c0 : Nat) (l0 : List Int) (r1 : ByteArray) (r2 : Int) (r3 : Int) (w : World) (hr0 : Kd.C (Kd.int .u8) w A0 l0.length l0) (hc0 : l0.length ≤ c0) (h : spec_DrawMakePuzzle.f k l0 = some (r1, r2, r3)) :
 Calls Tryz.prog 6 #[.slice A0 l0.length c0] w fun e w' => e = .returned (.tuple #[.string r1, .int .i64 r2, .int .i64 r3]) ∧ Below w.heap.size w w' := by
 have hu74 := Tryz.underlying74
 have HR0 := Aside0.mk hr0
 have HC0 := Aside0.mk hc0
 clear hr0 hc0
 have HB := Aside0.mk (Below.refl w.heap.size w)
 unfold spec_DrawMakePuzzle.f at h
 have H := h
 clear h
 replace H := bd_ H; obtain ⟨⟨t165, t166, t167⟩, A2, H⟩ := H
 dsimp only at H
 by_cases c3 : t165 = true
 · subst c3
   rw [if_pos rfl] at H
   replace H := bd_ H; obtain ⟨⟨t168, t169, t170⟩, A4, H⟩ := H
   dsimp only at H
   obtain ⟨y171, hy171⟩ : ∃ y_ : List Int, y_ = (([(-1), 6, 7] : List Int)) := ⟨_, rfl⟩
   replace H : ((spec_l1Cur_among.f l0 t169 t170 y171).bind fun bt174 => ((spec_l1Cur_among.f l0 bt174.2.1 bt174.2.2 (([(-1), 9999, 10000] : List Int))).bind fun bt180 => (some (t168, bt174.1, bt180.1)))) = some (r1, r2, r3) := by first | (rw [hy171]; with_reducible exact H) | (have H2_ := (Option.bind_some _ _).symm.trans H; rw [hy171]; with_reducible exact H2_) | (have H2_ := (Option.bind_some _ _).symm.trans H; with_reducible exact H2_) | with_reducible exact H | (rw [hy171]; exact H) | exact H
   have Ny171 := Aside0.mk hy171
   clear hy171
   replace H := bd_ H; obtain ⟨⟨t174, t175, t176⟩, A5, H⟩ := H
   dsimp only at H
   obtain ⟨y177, hy177⟩ : ∃ y_ : List Int, y_ = (([(-1), 9999, 10000] : List Int)) := ⟨_, rfl⟩
   replace H : ((spec_l1Cur_among.f l0 t175 t176 y177).bind fun bt180 => (some (t168, t174, bt180.1))) = some (r1, r2, r3) := by first | (rw [hy177]; with_reducible exact H) | (have H2_ := (Option.bind_some _ _).symm.trans H; rw [hy177]; with_reducible exact H2_) | (have H2_ := (Option.bind_some _ _).symm.trans H; with_reducible exact H2_) | with_reducible exact H | (rw [hy177]; exact H) | exact H
   have Ny177 := Aside0.mk hy177
   clear hy177
   replace H := bd_ H; obtain ⟨⟨t180, t181, t182⟩, A6, H⟩ := H
   dsimp only at H
   simp only [Option.some.injEq, Prod.mk.injEq] at H
   obtain ⟨rfl, rfl, rfl⟩ := H
   go_enter Tryz.func6, Tryz.ntmps6
   go_wp2_with (first | (refine bx_ 8 #[.slice A0 l0.length c0, .int .i64 0, .int .u64 0] 74 ?_; intro gb164 hg w7 hbox hb; have HI164 := Aside0.mk ((⟨_, _, hbox, (by rw [hg]; exact (below_size zB_) : w.heap.size ≤ gb164), HR0.out⟩ : IsS74 w w7 gb164 l0 0 0)); replace HB := Aside0.mk (below_step zB_ hb); clear hb hbox hg) | ((with_reducible refine gc_ 57 rfl ?_); refine gL_ 10 Tryz.func57 #[.pointer (some ⟨gb164, 0, none⟩), .int .i64 12] ?_; (with_reducible refine (spec_l1Cur_one.calls gb164 l0 0 0 12 true t166 t167 w _ ?side1 ?side2 A2.out).mono ?_); (case side1 => exact zc6_1_); (case side2 => exact zc6_0_); rintro e w8 ⟨rfl, hi, hb, hk⟩; refine ⟨_, rfl, ?_⟩; replace HB := Aside0.mk (hb); replace HI164 := Aside0.mk (hi)) | ((with_reducible refine gc_ 58 rfl ?_); refine gL_ 12 Tryz.func58 #[.pointer (some ⟨gb164, 0, none⟩)] ?_; (with_reducible refine (spec_l1Cur_ticket.calls k gb164 l0 t166 t167 t168 t169 t170 w _ ?side1 ?side2 A4.out).mono ?_); (case side1 => exact zc6_1_); (case side2 => exact zc6_0_); rintro e w9 ⟨rfl, hi, hb, hk⟩; refine ⟨_, rfl, ?_⟩; replace HB := Aside0.mk (hb); replace HI164 := Aside0.mk (hi)) | ((with_reducible refine gate_dst (N := 14) rfl ?_); refine Kd.R_lit (Kd.int .i64) _ 3 ?hg (N := 14) ?hd (xs := ([(-1), 6, 7] : List Int)) (inner := [.int .i64 (-1), .int .i64 6, .int .i64 7]) (ok := fun _ => True) (okp := fun _ => True) ?hr ?hp (fun _ hk => hk) trivial (Below.refl _ _) (Nat.le_refl _) (by simp) ?_; (case hd => rfl); (case hg => rfl); (case hr => exact zc6_5_); (case hp => exact (Reps.one (show Kd.M (Kd.int .i64) _ _ _ (-1) [.int .i64 (-1)] from rfl) (Reps.one (show Kd.M (Kd.int .i64) _ _ _ 6 [.int .i64 6] from rfl) (Reps.one (show Kd.M (Kd.int .i64) _ _ _ 7 [.int .i64 7] from rfl) (Reps.none _ _))))); intro v172 w10 ho11 hb hg_ hnew_; clear hg_ hnew_; (first | rw [← Ny171.out] at ho11 | (simp only [Int.reduceToNat] at ho11; rw [← Ny171.out] at ho11)); have HO173 := Aside0.mk (Kd.R_lower ho11 (below_size z3_4_)); replace HB := Aside0.mk (below_step z3_4_ hb); replace HI164 := Aside0.mk (IsS74.below zq6_1_ hb); clear hb ho11; obtain ⟨Ao12, co12, eo12⟩ := Kd.R_slice HO173.out; subst eo12) | ((with_reducible refine gc_ 59 rfl ?_); refine gL_ 15 Tryz.func59 #[.pointer (some ⟨gb164, 0, none⟩), .slice Ao12 y171.length co12] ?_; (with_reducible refine (spec_l1Cur_among.calls gb164 l0 t169 t170 _ _ y171 t174 t175 t176 w _ ?side1 ?side2 ?side3 ?side4 ?side5 A5.out).mono ?_); (case side1 => exact zc6_1_); (case side2 => exact zc6_0_); (case side3 => repeat (first | exact (Kd.R_reads' HO173.out).2.2 | (with_reducible refine Kd.C_alloc ?_ _) | (with_reducible refine Kd.C_drewN ?_ _) | (with_reducible refine Kd.C_drew ?_))); (case side4 => exact (Kd.R_reads' HO173.out).2.1); (case side5 => exact far_slice (IsS74.own_ne HI164.out HO173.out (by decide))); rintro e w13 ⟨rfl, hi, hb, hk⟩; refine ⟨_, rfl, ?_⟩; replace HO173 := Aside0.mk (Kd.R_mono (Kd.R_keep (IsS74.apart (show IsS74 w _ gb164 l0 t169 t170 from by repeat (first | (with_reducible first | exact HI164.out | apply IsS74.alloc | apply IsS74.drewN | apply IsS74.drew | apply IsS74.set_1 | apply IsS74.set_2) | exact HI164.out)) z3_8_ (by decide)) hk (fun _ h => h.2)) (fun _ h => h.1)); replace HB := Aside0.mk (hb); replace HI164 := Aside0.mk (hi)) | ((with_reducible refine gate_dst (N := 17) rfl ?_); refine Kd.R_lit (Kd.int .i64) _ 3 ?hg (N := 17) ?hd (xs := ([(-1), 9999, 10000] : List Int)) (inner := [.int .i64 (-1), .int .i64 9999, .int .i64 10000]) (ok := fun _ => True) (okp := fun _ => True) ?hr ?hp (fun _ hk => hk) trivial (Below.refl _ _) (Nat.le_refl _) (by simp) ?_; (case hd => rfl); (case hg => rfl); (case hr => exact zc6_5_); (case hp => exact (Reps.one (show Kd.M (Kd.int .i64) _ _ _ (-1) [.int .i64 (-1)] from rfl) (Reps.one (show Kd.M (Kd.int .i64) _ _ _ 9999 [.int .i64 9999] from rfl) (Reps.one (show Kd.M (Kd.int .i64) _ _ _ 10000 [.int .i64 10000] from rfl) (Reps.none _ _))))); intro v178 w14 ho15 hb hg_ hnew_; clear hg_ hnew_; (first | rw [← Ny177.out] at ho15 | (simp only [Int.reduceToNat] at ho15; rw [← Ny177.out] at ho15)); have HO179 := Aside0.mk (Kd.R_lower (Kd.R_new' ho15 (Kd.R_lt z3_8_)) (below_size z3_4_)); replace HO173 := Aside0.mk (Kd.R_elder' z3_8_ (Kd.R_base ho15) hb); replace HB := Aside0.mk (below_step z3_4_ hb); replace HI164 := Aside0.mk (IsS74.below zq6_1_ hb); clear hb ho15; obtain ⟨Ao16, co16, eo16⟩ := Kd.R_slice HO179.out; subst eo16) | ((with_reducible refine gc_ 59 rfl ?_); refine gL_ 18 Tryz.func59 #[.pointer (some ⟨gb164, 0, none⟩), .slice Ao16 y177.length co16] ?_; (with_reducible refine (spec_l1Cur_among.calls gb164 l0 t175 t176 _ _ y177 t180 t181 t182 w _ ?side1 ?side2 ?side3 ?side4 ?side5 A6.out).mono ?_); (case side1 => exact zc6_1_); (case side2 => exact zc6_0_); (case side3 => repeat (first | exact (Kd.R_reads' HO179.out).2.2 | (with_reducible refine Kd.C_alloc ?_ _) | (with_reducible refine Kd.C_drewN ?_ _) | (with_reducible refine Kd.C_drew ?_))); (case side4 => exact (Kd.R_reads' HO179.out).2.1); (case side5 => exact far_slice (IsS74.own_ne HI164.out HO179.out (by decide))); rintro e w17 ⟨rfl, hi, hb, hk⟩; refine ⟨_, rfl, ?_⟩; replace HO173 := Aside0.mk (Kd.R_mono (Kd.R_keep (IsS74.apart (show IsS74 w _ gb164 l0 t175 t176 from by repeat (first | (with_reducible first | exact HI164.out | apply IsS74.alloc | apply IsS74.drewN | apply IsS74.drew | apply IsS74.set_1 | apply IsS74.set_2) | exact HI164.out)) z3_8_ (by decide)) hk (fun _ h => h.2)) (fun _ h => h.1)); replace HO179 := Aside0.mk (Kd.R_mono (Kd.R_keep (IsS74.apart (show IsS74 w _ gb164 l0 t175 t176 from by repeat (first | (with_reducible first | exact HI164.out | apply IsS74.alloc | apply IsS74.drewN | apply IsS74.drew | apply IsS74.set_1 | apply IsS74.set_2) | exact HI164.out)) (rr_ HO179.out) (by decide)) hk (fun _ h => h.2)) (fun _ h => h.1)); replace HB := Aside0.mk (hb); replace HI164 := Aside0.mk (hi)))
   go_ret3
   exact ⟨zR_, by repeat (first | (with_reducible first | exact HB.out | apply below_alloc | apply pw_below_drewN | apply below_drew1 | refine below_set ?_ (IsS74.ge HI164.out)) | exact HB.out)⟩
 replace H := bf_ c3 H; obtain ⟨rfl, H⟩ := H
 replace H := bd_ H; obtain ⟨⟨t183, t184, t185⟩, A18, H⟩ := H
 dsimp only at H
 replace H := bd_ H; obtain ⟨⟨t186, t187, t188⟩, A19, H⟩ := H
 dsimp only at H
 replace H := bd_ H; obtain ⟨⟨t189, t190, t191⟩, A20, H⟩ := H
 dsimp only at H
 simp only [Option.some.injEq, Prod.mk.injEq] at H
 obtain ⟨rfl, rfl, rfl⟩ := H
 go_enter Tryz.func6, Tryz.ntmps6
 go_wp2_with (first | (refine bx_ 8 #[.slice A0 l0.length c0, .int .i64 0, .int .u64 0] 74 ?_; intro gb164 hg w21 hbox hb; have HI164 := Aside0.mk ((⟨_, _, hbox, (by rw [hg]; exact (below_size zB_) : w.heap.size ≤ gb164), HR0.out⟩ : IsS74 w w21 gb164 l0 0 0)); replace HB := Aside0.mk (below_step zB_ hb); clear hb hbox hg) | ((with_reducible refine gc_ 57 rfl ?_); refine gL_ 10 Tryz.func57 #[.pointer (some ⟨gb164, 0, none⟩), .int .i64 12] ?_; (with_reducible refine (spec_l1Cur_one.calls gb164 l0 0 0 12 false t166 t167 w _ ?side1 ?side2 A2.out).mono ?_); (case side1 => exact zc6_1_); (case side2 => exact zc6_0_); rintro e w22 ⟨rfl, hi, hb, hk⟩; refine ⟨_, rfl, ?_⟩; replace HB := Aside0.mk (hb); replace HI164 := Aside0.mk (hi)) | ((with_reducible refine gc_ 60 rfl ?_); refine gL_ 20 Tryz.func60 #[.pointer (some ⟨gb164, 0, none⟩)] ?_; (with_reducible refine (spec_l1Cur_hidden.calls k gb164 l0 t166 t167 t183 t184 t185 w _ ?side1 ?side2 A18.out).mono ?_); (case side1 => exact zc6_1_); (case side2 => exact zc6_0_); rintro e w23 ⟨rfl, hi, hb, hk⟩; refine ⟨_, rfl, ?_⟩; replace HB := Aside0.mk (hb); replace HI164 := Aside0.mk (hi)) | ((with_reducible refine gc_ 61 rfl ?_); refine gL_ 22 Tryz.func61 #[.pointer (some ⟨gb164, 0, none⟩), .int .i64 7] ?_; (with_reducible refine (spec_l1Cur_pick.calls gb164 l0 t184 t185 7 t186 t187 t188 w _ ?side1 ?side2 A19.out).mono ?_); (case side1 => exact zc6_1_); (case side2 => exact zc6_0_); rintro e w24 ⟨rfl, hi, hb, hk⟩; refine ⟨_, rfl, ?_⟩; replace HB := Aside0.mk (hb); replace HI164 := Aside0.mk (hi)) | ((with_reducible refine gc_ 61 rfl ?_); refine gL_ 24 Tryz.func61 #[.pointer (some ⟨gb164, 0, none⟩), .int .i64 10000] ?_; (with_reducible refine (spec_l1Cur_pick.calls gb164 l0 t187 t188 10000 t189 t190 t191 w _ ?side1 ?side2 A20.out).mono ?_); (case side1 => exact zc6_1_); (case side2 => exact zc6_0_); rintro e w25 ⟨rfl, hi, hb, hk⟩; refine ⟨_, rfl, ?_⟩; replace HB := Aside0.mk (hb); replace HI164 := Aside0.mk (hi)))
 go_ret3
 exact ⟨zR_, by repeat (first | (with_reducible first | exact HB.out | apply below_alloc | apply pw_below_drewN | apply below_drew1 | refine below_set ?_ (IsS74.ge HI164.out)) | exact HB.out)⟩

/-! ### impl_within: function 63 -/
def impl_within.f (a0 : Int) (a1 : Int) (a2 : Int) : Option (Bool) := if a1 ≤ a0 then (some (decide (a0 ≤ a2))) else (some false)
set_option maxHeartbeats 8000000 in
set_option maxRecDepth 100000 in
theorem impl_within.calls (a0 : Int) (a1 : Int) (a2 : Int) (r : Bool) (w : World) (h : impl_within.f a0 a1 a2 = some r) :
 Calls Tryz.prog 63 #[.int .i64 a0, .int .i64 a1, .int .i64 a2] w fun e w' => e = .returned (.bool r) ∧ Drawn0 w w' := by
 unfold impl_within.f at h
 have H := h
 clear h
 by_cases c4 : a1 ≤ a0
 · rw [if_pos c4] at H
   have c4b0 := decide_eq_true c4
   clear c4
   obtain rfl := Option.some.inj H
   go_enter Tryz.func63, Tryz.ntmps63
   go_wp2
   go_ret
   exact ⟨by first | rfl | (simp; done) | (simp [*]; done), by repeat (first | exact Drawn0.refl _ | apply Drawn0.step)⟩
 rw [if_neg c4] at H
 have c4b0 := decide_eq_false c4
 clear c4
 obtain rfl := Option.some.inj H
 go_enter Tryz.func63, Tryz.ntmps63
 go_wp2
 go_ret
 exact ⟨by first | rfl | (simp; done) | (simp [*]; done), by repeat (first | exact Drawn0.refl _ | apply Drawn0.step)⟩

/-! ### impl_areDigits: function 91 -/
def impl_areDigits.l0 : Nat → ByteArray → Int → Int → Int → Int → Option (Bool)
 | 0, _, _, _, _, _ => none
 | k + 1, x0, x1, x2, x9, x10 => if x10 < x9 then (if 0 ≤ x10 then (if x10 < (x0.size : Int) then (if (bt x0 x10) < 48 then (some false) else (if (bt x0 x10) > 57 then (some false) else (impl_areDigits.l0 k x0 x1 x2 x9 (wrap64 (x10 + 1))))) else (none)) else (none)) else ((impl_within.f (x0.size : Int) x1 x2).bind fun t192 => (some t192))
def impl_areDigits.f (k : Nat) (a0 : ByteArray) (a1 : Int) (a2 : Int) : Option (Bool) := impl_areDigits.l0 k a0 a1 a2 (a0.size : Int) 0
theorem impl_areDigits.mono_l : ∀ k, (∀ y0 y1 y2 y3 y4, LeO (impl_areDigits.l0 k y0 y1 y2 y3 y4) (impl_areDigits.l0 (k + 1) y0 y1 y2 y3 y4))
 | 0 => fun _ _ _ _ _ r h => by simp [impl_areDigits.l0] at h
 | k + 1 => by
  have ih0 := impl_areDigits.mono_l k
  intro y0 y1 y2 y3 y4
  unfold impl_areDigits.l0
  repeat' first
  | (with_reducible exact ih0 _ _ _ _ _)
  | (with_reducible exact LeO.refl _)
  | (with_reducible exact LeO.none _)
  | (with_reducible refine LeO.ite ?_ ?_)
  | (with_reducible refine LeO.bind ?_ (fun _ => ?_))
  | exact LeO.none _
  | refine LeO.ite ?_ ?_
  | refine LeO.bind ?_ (fun _ => ?_)
theorem impl_areDigits.mono : ∀ a0 a1 a2 k, LeO (impl_areDigits.f k a0 a1 a2) (impl_areDigits.f (k + 1) a0 a1 a2) := by
 intro a0 a1 a2 k
 have ih0 := impl_areDigits.mono_l k
 unfold impl_areDigits.f
 repeat' first
  | (with_reducible exact ih0 _ _ _ _ _)
  | (with_reducible exact LeO.refl _)
  | (with_reducible exact LeO.none _)
  | (with_reducible refine LeO.ite ?_ ?_)
  | (with_reducible refine LeO.bind ?_ (fun _ => ?_))
  | exact LeO.none _
  | refine LeO.ite ?_ ?_
  | refine LeO.bind ?_ (fun _ => ?_)
set_option maxHeartbeats 8000000 in
set_option maxRecDepth 100000 in
theorem impl_areDigits.calls (k : Nat) (a0 : ByteArray) (a1 : Int) (a2 : Int) (r : Bool) (w : World) (h : impl_areDigits.f k a0 a1 a2 = some r) :
 Calls Tryz.prog 91 #[.string a0, .int .i64 a1, .int .i64 a2] w fun e w' => e = .returned (.bool r) ∧ Drawn0 w w' := by
 unfold impl_areDigits.f at h
 have H := h
 clear h
 have H' := Aside0.mk H
 clear H
 go_enter Tryz.func91, Tryz.ntmps91
 go_wp2
 go_loopg [10] k (fun kq v10 w' => ∃ (x10_1 : Int), v10 = .int .i64 x10_1 ∧ Aside0 (impl_areDigits.l0 kq a0 a1 a2 (a0.size : Int) x10_1 = some r) ∧ Aside0 (kq ≤ k) ∧ Drawn0 w w')
 case atStart => exact ⟨(0), zV_, H', ⟨Nat.le_refl _⟩, by repeat (first | exact Drawn0.refl _ | apply Drawn0.step)⟩
 case round =>
  clear H'
  try clear p2
  obtain ⟨x10_1, rfl, HA, HK1, ⟨m1, rfl⟩⟩ := hrel
  cases gk with
  | zero => exact absurd HA.out (by simp [impl_areDigits.l0])
  | succ k1 =>
   have H := HA.out
   clear HA
   simp only [impl_areDigits.l0] at H
   by_cases c4 : x10_1 < (a0.size : Int)
   rotate_left
   · rw [if_neg c4] at H
     have c4b0 := decide_eq_false c4
     clear c4
     replace H := bd_ H; obtain ⟨t192, A11, H⟩ := H
     obtain rfl := Option.some.inj H
     go_wp2_with (first | ((with_reducible refine gc_ 63 rfl ?_); refine gL_ 28 Tryz.func63 #[.int .i64 (a0.size : Int), .int .i64 a1, .int .i64 a2] ?_; (with_reducible refine (impl_within.calls (a0.size : Int) a1 a2 t192 _ A11.out).mono ?_); rintro e w' ⟨rfl, ⟨nd, rfl⟩⟩; refine ⟨_, rfl, ?_⟩))
     go_ret
     exact ⟨by first | rfl | (simp; done) | (simp [*]; done), by repeat (first | exact Drawn0.refl _ | apply Drawn0.step)⟩
   rw [if_pos c4] at H
   have c4b0 := decide_eq_true c4
   clear c4
   replace H := gd_ H; obtain ⟨c5, H⟩ := H
   have c5b0 : decide (0 ≤ x10_1) = true := decide_eq_true c5
   clear c5
   replace H := gd_ H; obtain ⟨c6, H⟩ := H
   have c6b0 : decide (x10_1 < (a0.size : Int)) = true := decide_eq_true c6
   clear c6
   by_cases c8 : (bt a0 x10_1) < 48
   · rw [if_pos c8] at H
     have c8b0 := decide_eq_true c8
     clear c8
     obtain rfl := Option.some.inj H
     have p7 : 0 ≤ (x10_1 : Int) := of_decide_eq_true zS_
     have q7 : x10_1 < (a0.size : Int) := of_decide_eq_true zS_
     have hx7 := bt_at a0 x10_1
     replace p7 := eq_true p7
     replace q7 := eq_true q7
     go_wp2
     go_ret
     exact ⟨by first | rfl | (simp; done) | (simp [*]; done), by repeat (first | exact Drawn0.refl _ | apply Drawn0.step)⟩
   rw [if_neg c8] at H
   have c8b0 := decide_eq_false c8
   clear c8
   by_cases c10 : (bt a0 x10_1) > 57
   · rw [if_pos c10] at H
     have c10b0 : decide (57 < (bt a0 x10_1)) = true := decide_eq_true c10
     clear c10
     obtain rfl := Option.some.inj H
     have p7 : 0 ≤ (x10_1 : Int) := of_decide_eq_true zS_
     have q7 : x10_1 < (a0.size : Int) := of_decide_eq_true zS_
     have hx7 := bt_at a0 x10_1
     replace p7 := eq_true p7
     replace q7 := eq_true q7
     have p9 : 0 ≤ (x10_1 : Int) := of_decide_eq_true zS_
     have q9 : x10_1 < (a0.size : Int) := of_decide_eq_true zS_
     have hx9 := bt_at a0 x10_1
     replace p9 := eq_true p9
     replace q9 := eq_true q9
     go_wp2
     go_ret
     exact ⟨by first | rfl | (simp; done) | (simp [*]; done), by repeat (first | exact Drawn0.refl _ | apply Drawn0.step)⟩
   rw [if_neg c10] at H
   have c10b0 : decide (57 < (bt a0 x10_1)) = false := decide_eq_false c10
   clear c10
   have H' := Aside0.mk H
   clear H
   have p7 : 0 ≤ (x10_1 : Int) := of_decide_eq_true zS_
   have q7 : x10_1 < (a0.size : Int) := of_decide_eq_true zS_
   have hx7 := bt_at a0 x10_1
   replace p7 := eq_true p7
   replace q7 := eq_true q7
   have p9 : 0 ≤ (x10_1 : Int) := of_decide_eq_true zS_
   have q9 : x10_1 < (a0.size : Int) := of_decide_eq_true zS_
   have hx9 := bt_at a0 x10_1
   replace p9 := eq_true p9
   replace q9 := eq_true q9
   go_wp2
   go_roundg k1
   case measure => have := HK1.out; omega
   case rel => exact ⟨(wrap64 (x10_1 + 1)), zV_, H', ⟨by have := HK1.out; omega⟩, by repeat (first | exact Drawn0.refl _ | apply Drawn0.step)⟩

/-! ### strings_Trim: function 101 -/
def strings_Trim.f (a0 : ByteArray) (a1 : ByteArray) : Option ByteArray := if a0.size ≤ 9223372036854775807 then (if a1.size < 4294967281 then (if a1.data.toList.all (fun b => decide (b.toNat < 128)) = true then some ⟨(Lib.trimS a0.data.toList a1.data.toList).toArray⟩ else none) else none) else none
theorem strings_Trim.calls (a0 : ByteArray) (a1 : ByteArray) (r : ByteArray) (w : World) (h : strings_Trim.f a0 a1 = some r) :
 Calls Tryz.prog 101 #[.string a0, .string a1] w fun e w' => e = .returned (.string r) ∧ Below w.heap.size w w' := by
 unfold strings_Trim.f at h
 by_cases h0 : a0.size ≤ 9223372036854775807
 rotate_left
 · exact none_ (if_neg h0) h
 rw [if_pos h0] at h
 by_cases h1 : a1.size < 4294967281
 rotate_left
 · exact none_ (if_neg h1) h
 rw [if_pos h1] at h
 by_cases h2 : a1.data.toList.all (fun b => decide (b.toNat < 128)) = true
 rotate_left
 · exact none_ (if_neg h2) h
 rw [if_pos h2] at h
 obtain rfl := Option.some.inj h
 exact Shelf.Trim a0 a1 w h0 h1 h2

/-! ### impl_isHidden: function 62 -/
def impl_isHidden.f (k : Nat) (a0 : ByteArray) : Option (Bool) := (impl_areDigits.f k a0 4 4).bind fun t193 => (if t193 = true then ((strings_Trim.f a0 (⟨#[48, 49, 50, 51, 52, 53]⟩ : ByteArray)).bind fun t194 => (some (t194.toList == ([] : List UInt8)))) else (some false))
theorem impl_isHidden.mono : ∀ a0 k, LeO (impl_isHidden.f k a0) (impl_isHidden.f (k + 1) a0) := by
 intro a0 k
 unfold impl_isHidden.f
 have m1_ := @impl_areDigits.mono
 exact zM_
set_option maxHeartbeats 8000000 in
set_option maxRecDepth 100000 in
theorem impl_isHidden.calls (k : Nat) (a0 : ByteArray) (r : Bool) (w : World) (h : impl_isHidden.f k a0 = some r) :
 Calls Tryz.prog 62 #[.string a0] w fun e w' => e = .returned (.bool r) ∧ Below w.heap.size w w' := by
 have HB := Aside0.mk (Below.refl w.heap.size w)
 unfold impl_isHidden.f at h
 have H := h
 clear h
 replace H := bd_ H; obtain ⟨t193, A2, H⟩ := H
 by_cases c3 : t193 = true
 · subst c3
   rw [if_pos rfl] at H
   replace H := bd_ H; obtain ⟨t194, A4, H⟩ := H
   obtain rfl := Option.some.inj H
   go_enter Tryz.func62, Tryz.ntmps62
   go_wp2_with (first | ((with_reducible refine gc_ 91 rfl ?_); refine gL_ 4 Tryz.func91 #[.string a0, .int .i64 4, .int .i64 4] ?_; (with_reducible refine (impl_areDigits.calls k a0 4 4 true _ A2.out).mono ?_); rintro e w' ⟨rfl, ⟨nd, rfl⟩⟩; refine ⟨_, rfl, ?_⟩) | (go_at_call 101; (with_reducible refine (strings_Trim.calls a0 (⟨#[48, 49, 50, 51, 52, 53]⟩ : ByteArray) t194 _ A4.out).mono ?_); rintro e w5 ⟨rfl, hb⟩; replace HB := Aside0.mk (below_step zB_ hb)))
   go_ret
   exact ⟨zR_, zB_⟩
 replace H := bf_ c3 H; obtain ⟨rfl, H⟩ := H
 obtain rfl := Option.some.inj H
 go_enter Tryz.func62, Tryz.ntmps62
 go_wp2_with (first | ((with_reducible refine gc_ 91 rfl ?_); refine gL_ 4 Tryz.func91 #[.string a0, .int .i64 4, .int .i64 4] ?_; (with_reducible refine (impl_areDigits.calls k a0 4 4 false _ A2.out).mono ?_); rintro e w' ⟨rfl, ⟨nd, rfl⟩⟩; refine ⟨_, rfl, ?_⟩))
 go_ret
 exact ⟨zR_, zB_⟩

/-! ### impl_sumOf: function 71 -/
def impl_sumOf.l0 : Nat → ByteArray → Int → Int → Int → Option (Int)
 | 0, _, _, _, _ => none
 | k + 1, x0, x3, x6, x7 => if x7 < x6 then (if 0 ≤ x7 then (if x7 < (x0.size : Int) then (impl_sumOf.l0 k x0 (wrap64 (x3 + (((bt x0 x7) - 48) % 256))) x6 (wrap64 (x7 + 1))) else (none)) else (none)) else (some x3)
def impl_sumOf.f (k : Nat) (a0 : ByteArray) : Option (Int) := impl_sumOf.l0 k a0 0 (a0.size : Int) 0
theorem impl_sumOf.mono_l : ∀ k, (∀ y0 y1 y2 y3, LeO (impl_sumOf.l0 k y0 y1 y2 y3) (impl_sumOf.l0 (k + 1) y0 y1 y2 y3))
 | 0 => fun _ _ _ _ r h => by simp [impl_sumOf.l0] at h
 | k + 1 => by
  have ih0 := impl_sumOf.mono_l k
  intro y0 y1 y2 y3
  unfold impl_sumOf.l0
  repeat' first
  | (with_reducible exact ih0 _ _ _ _)
  | (with_reducible exact LeO.refl _)
  | (with_reducible exact LeO.none _)
  | (with_reducible refine LeO.ite ?_ ?_)
  | (with_reducible refine LeO.bind ?_ (fun _ => ?_))
  | exact LeO.none _
  | refine LeO.ite ?_ ?_
  | refine LeO.bind ?_ (fun _ => ?_)
theorem impl_sumOf.mono : ∀ a0 k, LeO (impl_sumOf.f k a0) (impl_sumOf.f (k + 1) a0) := by
 intro a0 k
 have ih0 := impl_sumOf.mono_l k
 unfold impl_sumOf.f
 repeat' first
  | (with_reducible exact ih0 _ _ _ _)
  | (with_reducible exact LeO.refl _)
  | (with_reducible exact LeO.none _)
  | (with_reducible refine LeO.ite ?_ ?_)
  | (with_reducible refine LeO.bind ?_ (fun _ => ?_))
  | exact LeO.none _
  | refine LeO.ite ?_ ?_
  | refine LeO.bind ?_ (fun _ => ?_)
set_option maxHeartbeats 8000000 in
set_option maxRecDepth 100000 in
theorem impl_sumOf.calls (k : Nat) (a0 : ByteArray) (r : Int) (w : World) (h : impl_sumOf.f k a0 = some r) :
 Calls Tryz.prog 71 #[.string a0] w fun e w' => e = .returned (.int .i64 r) ∧ Drawn0 w w' := by
 unfold impl_sumOf.f at h
 have H := h
 clear h
 have H' := Aside0.mk H
 clear H
 go_enter Tryz.func71, Tryz.ntmps71
 go_wp2
 go_loopg [3, 7] k (fun kq v3 v7 w' => ∃ (x3_1 : Int) (x7_1 : Int), v3 = .int .i64 x3_1 ∧ v7 = .int .i64 x7_1 ∧ Aside0 (impl_sumOf.l0 kq a0 x3_1 (a0.size : Int) x7_1 = some r) ∧ Aside0 (kq ≤ k) ∧ Drawn0 w w')
 case atStart => exact ⟨(0), (0), zV_, zV_, H', ⟨Nat.le_refl _⟩, by repeat (first | exact Drawn0.refl _ | apply Drawn0.step)⟩
 case round =>
  clear H'
  obtain ⟨x3_1, x7_1, rfl, rfl, HA, HK1, ⟨m1, rfl⟩⟩ := hrel
  cases gk with
  | zero => exact absurd HA.out (by simp [impl_sumOf.l0])
  | succ k1 =>
   have H := HA.out
   clear HA
   simp only [impl_sumOf.l0] at H
   by_cases c2 : x7_1 < (a0.size : Int)
   rotate_left
   · rw [if_neg c2] at H
     have c2b0 := decide_eq_false c2
     clear c2
     obtain rfl := Option.some.inj H
     go_wp2
     go_ret
     exact ⟨by first | rfl | (simp; done) | (simp [*]; done), by repeat (first | exact Drawn0.refl _ | apply Drawn0.step)⟩
   rw [if_pos c2] at H
   have c2b0 := decide_eq_true c2
   clear c2
   replace H := gd_ H; obtain ⟨c3, H⟩ := H
   have c3b0 : decide (0 ≤ x7_1) = true := decide_eq_true c3
   clear c3
   replace H := gd_ H; obtain ⟨c4, H⟩ := H
   have c4b0 : decide (x7_1 < (a0.size : Int)) = true := decide_eq_true c4
   clear c4
   have H' := Aside0.mk H
   clear H
   have p5 : 0 ≤ (x7_1 : Int) := of_decide_eq_true zS_
   have q5 : x7_1 < (a0.size : Int) := of_decide_eq_true zS_
   have hx5 := bt_at a0 x7_1
   replace p5 := eq_true p5
   replace q5 := eq_true q5
   go_wp2
   go_roundg k1
   case measure => have := HK1.out; omega
   case rel => exact ⟨(wrap64 (x3_1 + (((bt a0 x7_1) - 48) % 256))), (wrap64 (x7_1 + 1)), zV_, zV_, H', ⟨by have := HK1.out; omega⟩, by repeat (first | exact Drawn0.refl _ | apply Drawn0.step)⟩

/-! ### impl_halves: function 70 -/
def impl_halves.f (a0 : ByteArray) : Option (ByteArray × ByteArray) := if 0 ≤ (wrap64 ((a0.size : Int) / 2)) then (if (wrap64 ((a0.size : Int) / 2)) ≤ (a0.size : Int) then (some (a0.extract 0 ((wrap64 ((a0.size : Int) / 2)) : Int).toNat, a0.extract ((wrap64 ((a0.size : Int) / 2)) : Int).toNat a0.size)) else (none)) else (none)
set_option maxHeartbeats 8000000 in
set_option maxRecDepth 100000 in
theorem impl_halves.calls (a0 : ByteArray) (r1 : ByteArray) (r2 : ByteArray) (w : World) (h : impl_halves.f a0 = some (r1, r2)) :
 Calls Tryz.prog 70 #[.string a0] w fun e w' => e = .returned (.tuple #[.string r1, .string r2]) ∧ Drawn0 w w' := by
 unfold impl_halves.f at h
 have H := h
 clear h
 obtain ⟨ji2, hji2⟩ : ∃ j_ : Int, (wrap64 ((a0.size : Int) / 2)) = j_ := ⟨_, rfl⟩
 replace H : (if 0 ≤ (ji2) then (if (ji2) ≤ (a0.size : Int) then (some (a0.extract 0 ((ji2) : Int).toNat, a0.extract ((ji2) : Int).toNat a0.size)) else (none)) else (none)) = some (r1, r2) := by first | (rw [hji2] at H; exact H) | (simp only [hji2] at H ⊢; exact H)
 have hji2w : (IntKind.i64.wrap ((a0.size : Int) / 2)) = ji2 := (i64_w _).trans hji2
 replace H := gd_ H; obtain ⟨c3, H⟩ := H
 have c3b0 := eq_true c3
 have c3b1 : decide (0 ≤ (ji2)) = true := decide_eq_true c3
 clear c3
 replace H := gd_ H; obtain ⟨c4, H⟩ := H
 have c4b0 := eq_true c4
 have c4b1 : decide ((ji2) ≤ (a0.size : Int)) = true := decide_eq_true c4
 clear c4
 have c5b0 := eq_true (of_decide_eq_true zS_ : 0 ≤ (ji2))
 have c6b0 := eq_true (of_decide_eq_true zS_ : (ji2) ≤ (a0.size : Int))
 simp only [Option.some.injEq, Prod.mk.injEq] at H
 obtain ⟨rfl, rfl⟩ := H
 go_enter Tryz.func70, Tryz.ntmps70
 go_wp2
 repeat (go_quiet (fail); try go_wp2)
 go_ret2
 exact ⟨by first | rfl | (simp; done) | (simp only [← hji2] <;> (first | rfl | simp)) | (simp [*]; done), by repeat (first | exact Drawn0.refl _ | apply Drawn0.step)⟩


/-! ### impl_isLucky: function 73 -/
def impl_isLucky.f (k : Nat) (a0 : ByteArray) : Option (Bool) := (impl_halves.f a0).bind fun bt195 => ((impl_sumOf.f k bt195.1).bind fun t197 => ((impl_sumOf.f k bt195.2).bind fun t198 => (some (t197 == t198))))
theorem impl_isLucky.mono : ∀ a0 k, LeO (impl_isLucky.f k a0) (impl_isLucky.f (k + 1) a0) := by
 intro a0 k
 unfold impl_isLucky.f
 have m1_ := @impl_sumOf.mono
 exact zM_
set_option maxHeartbeats 8000000 in
set_option maxRecDepth 100000 in
theorem impl_isLucky.calls (k : Nat) (a0 : ByteArray) (r : Bool) (w : World) (h : impl_isLucky.f k a0 = some r) :
 Calls Tryz.prog 73 #[.string a0] w fun e w' => e = .returned (.bool r) ∧ Drawn0 w w' := by
 unfold impl_isLucky.f at h
 have H := h
 clear h
 replace H := bd_ H; obtain ⟨⟨t195, t196⟩, A2, H⟩ := H
 dsimp only at H
 replace H := bd_ H; obtain ⟨t197, A3, H⟩ := H
 replace H := bd_ H; obtain ⟨t198, A4, H⟩ := H
 obtain rfl := Option.some.inj H
 go_enter Tryz.func73, Tryz.ntmps73
 go_wp2_with (first | ((with_reducible refine gc_ 70 rfl ?_); refine gL_ 7 Tryz.func70 #[.string a0] ?_; (with_reducible refine (impl_halves.calls a0 t195 t196 _ A2.out).mono ?_); rintro e w' ⟨rfl, ⟨nd, rfl⟩⟩; refine ⟨_, rfl, ?_⟩) | ((with_reducible refine gc_ 71 rfl ?_); refine gL_ 11 Tryz.func71 #[.string t195] ?_; (with_reducible refine (impl_sumOf.calls k t195 t197 _ A3.out).mono ?_); rintro e w' ⟨rfl, ⟨nd, rfl⟩⟩; refine ⟨_, rfl, ?_⟩) | ((with_reducible refine gc_ 71 rfl ?_); refine gL_ 13 Tryz.func71 #[.string t196] ?_; (with_reducible refine (impl_sumOf.calls k t196 t198 _ A4.out).mono ?_); rintro e w' ⟨rfl, ⟨nd, rfl⟩⟩; refine ⟨_, rfl, ?_⟩))
 go_ret
 exact ⟨by first | rfl | (simp; done) | (simp [*]; done), by repeat (first | exact Drawn0.refl _ | apply Drawn0.step)⟩

/-! ### impl_bit: function 102 -/
def impl_bit.f (a0 : Bool) : Option (Int) := if a0 = true then (some 1) else (some 0)
set_option maxHeartbeats 8000000 in
set_option maxRecDepth 100000 in
theorem impl_bit.calls (a0 : Bool) (r : Int) (w : World) (h : impl_bit.f a0 = some r) :
 Calls Tryz.prog 102 #[.bool a0] w fun e w' => e = .returned (.int .i64 r) ∧ Drawn0 w w' := by
 unfold impl_bit.f at h
 have H := h
 clear h
 by_cases c2 : a0 = true
 · subst c2
   rw [if_pos rfl] at H
   obtain rfl := Option.some.inj H
   go_enter Tryz.func102, Tryz.ntmps102
   go_wp2
   go_ret
   exact ⟨by first | rfl | (simp; done) | (simp [*]; done), by repeat (first | exact Drawn0.refl _ | apply Drawn0.step)⟩
 replace H := bf_ c2 H; obtain ⟨rfl, H⟩ := H
 obtain rfl := Option.some.inj H
 go_enter Tryz.func102, Tryz.ntmps102
 go_wp2
 go_ret
 exact ⟨by first | rfl | (simp; done) | (simp [*]; done), by repeat (first | exact Drawn0.refl _ | apply Drawn0.step)⟩

/-! ### cmp_isNaN_byte: function 189 -/
def cmp_isNaN_byte.f (a0 : Int) : Option (Bool) := some (a0 != a0)
set_option maxHeartbeats 8000000 in
set_option maxRecDepth 100000 in
theorem cmp_isNaN_byte.calls (a0 : Int) (r : Bool) (w : World) (h : cmp_isNaN_byte.f a0 = some r) :
 Calls Tryz.prog 189 #[.int .u8 a0] w fun e w' => e = .returned (.bool r) ∧ Drawn0 w w' := by
 unfold cmp_isNaN_byte.f at h
 have H := h
 clear h
 obtain rfl := Option.some.inj H
 go_enter Tryz.func189, Tryz.ntmps189
 go_wp2
 go_ret
 exact ⟨by first | rfl | (simp; done) | (simp [*]; done), by repeat (first | exact Drawn0.refl _ | apply Drawn0.step)⟩

/-! ### cmp_Less_byte: function 163 -/
def cmp_Less_byte.f (a0 : Int) (a1 : Int) : Option (Bool) := (cmp_isNaN_byte.f a0).bind fun t199 => (if t199 = true then ((cmp_isNaN_byte.f a1).bind fun t200 => (if t200 = true then (some (decide (a0 < a1))) else (some true))) else (some (decide (a0 < a1))))
set_option maxHeartbeats 8000000 in
set_option maxRecDepth 100000 in
theorem cmp_Less_byte.calls (a0 : Int) (a1 : Int) (r : Bool) (w : World) (h : cmp_Less_byte.f a0 a1 = some r) :
 Calls Tryz.prog 163 #[.int .u8 a0, .int .u8 a1] w fun e w' => e = .returned (.bool r) ∧ Drawn0 w w' := by
 unfold cmp_Less_byte.f at h
 have H := h
 clear h
 replace H := bd_ H; obtain ⟨t199, A3, H⟩ := H
 by_cases c4 : t199 = true
 rotate_left
 · replace H := bf_ c4 H; obtain ⟨rfl, H⟩ := H
   obtain rfl := Option.some.inj H
   go_enter Tryz.func163, Tryz.ntmps163
   go_wp2_with (first | ((with_reducible refine gc_ 189 rfl ?_); refine gL_ 6 Tryz.func189 #[.int .u8 a0] ?_; (with_reducible refine (cmp_isNaN_byte.calls a0 false _ A3.out).mono ?_); rintro e w' ⟨rfl, ⟨nd, rfl⟩⟩; refine ⟨_, rfl, ?_⟩))
   go_ret
   exact ⟨by first | rfl | (simp; done) | (simp [*]; done), by repeat (first | exact Drawn0.refl _ | apply Drawn0.step)⟩
 subst c4
 rw [if_pos rfl] at H
 replace H := bd_ H; obtain ⟨t200, A5, H⟩ := H
 by_cases c6 : t200 = true
 · subst c6
   rw [if_pos rfl] at H
   obtain rfl := Option.some.inj H
   go_enter Tryz.func163, Tryz.ntmps163
   go_wp2_with (first | ((with_reducible refine gc_ 189 rfl ?_); refine gL_ 6 Tryz.func189 #[.int .u8 a0] ?_; (with_reducible refine (cmp_isNaN_byte.calls a0 true _ A3.out).mono ?_); rintro e w' ⟨rfl, ⟨nd, rfl⟩⟩; refine ⟨_, rfl, ?_⟩) | (go_at_call 189; (with_reducible refine (cmp_isNaN_byte.calls a1 true _ A5.out).mono ?_); rintro e w' ⟨rfl, ⟨nd, rfl⟩⟩))
   go_ret
   exact ⟨by first | rfl | (simp; done) | (simp [*]; done), by repeat (first | exact Drawn0.refl _ | apply Drawn0.step)⟩
 replace H := bf_ c6 H; obtain ⟨rfl, H⟩ := H
 obtain rfl := Option.some.inj H
 go_enter Tryz.func163, Tryz.ntmps163
 go_wp2_with (first | ((with_reducible refine gc_ 189 rfl ?_); refine gL_ 6 Tryz.func189 #[.int .u8 a0] ?_; (with_reducible refine (cmp_isNaN_byte.calls a0 true _ A3.out).mono ?_); rintro e w' ⟨rfl, ⟨nd, rfl⟩⟩; refine ⟨_, rfl, ?_⟩) | (go_at_call 189; (with_reducible refine (cmp_isNaN_byte.calls a1 false _ A5.out).mono ?_); rintro e w' ⟨rfl, ⟨nd, rfl⟩⟩))
 go_ret
 exact ⟨by first | rfl | (simp; done) | (simp [*]; done), by repeat (first | exact Drawn0.refl _ | apply Drawn0.step)⟩


/-! ### impl_differs: function 103 -/
/-- A row of bytes of the call's own that a conversion has made (its block bears the conversion's mark). -/
def MR (e : Nat) (w : World) (base : Nat) (ok : Nat → Prop) (v : Value) (xs : List Int) : Prop :=
 (∀ k, v.ownBlock = some k → ok k) ∧ ∃ g cap, ∃ cur : Array Value, v = .slice (some ⟨g, 0, none⟩) xs.length cap ∧ base ≤ g ∧ w.heap[g]? = some (.cells cur e (cur.size, cur.size + 1)) ∧ xs.length ≤ cap ∧ cap ≤ cur.size ∧ cap ≤ 9223372036854775807 ∧ ∀ j, j < xs.length → cur[j]? = some (.int .u8 (xs.getD j 0))
section
variable {e base n cap g m : Nat} {w w1 w' W : World} {ok ok' : Nat → Prop} {v : Value} {xs : List Int} {A : Option Addr}
theorem MR_mono (h : MR e w base ok v xs) (hok : ∀ k, ok k → ok' k) : MR e w base ok' v xs := ⟨fun k hk => hok k (h.1 k hk), h.2⟩
theorem MR_step (h : MR e w base ok v xs) (hm : ∀ k, ok k → k < w.heap.size → w1.heap[k]? = w.heap[k]?) : MR e w1 base ok v xs := by
 obtain ⟨h0, g, cap, cur, rfl, hg, hh, r⟩ := h
 exact ⟨h0, g, cap, cur, rfl, hg, (hm g (h0 g (by simp [Value.ownBlock])) (blk_lt hh)).trans hh, r⟩
theorem MR_below (h : MR e w base ok v xs) (hb : Below w.heap.size w w1) : MR e w1 base ok v xs := MR_step h (fun k _ hk => hb.block k hk)
theorem MR_alloc (h : MR e w base ok v xs) (o : Obj) : MR e (w.alloc o) base ok v xs := MR_below h (below_alloc (Below.refl _ _) o)
theorem MR_drew (h : MR e w base ok v xs) : MR e w.drew base ok v xs := MR_below h (below_drew (Below.refl _ _))
theorem MR_drewN (h : MR e w base ok v xs) (m : Nat) : MR e (w.drewN m) base ok v xs := MR_below h (pw_below_drewN (Below.refl _ _) m)
theorem MR_at (hq : w.drewN m = w') (h : MR e w base ok v xs) : MR e w' base ok v xs := by subst hq; exact MR_drewN h m
theorem MR_slice (h : MR e w base ok v xs) : ∃ A c, v = .slice A xs.length c := by
 obtain ⟨_, g, cap, cur, rfl, _⟩ := h
 exact ⟨_, _, rfl⟩
theorem MR_reads' {c : Nat} (h : MR e w base ok (.slice A n c) xs) : n = xs.length ∧ n ≤ c ∧ Kd.C (Kd.int .u8) w A xs.length xs := by
 obtain ⟨_, g, cap, cur, hv, _, hh, hl, hc, hm, hcur⟩ := h
 injection hv with h1 h2 h3
 subst h1; subst h3
 refine ⟨h2, by omega, Kd.C_of_reads (d := (0 : Int)) ⟨rfl, by omega, fun _ => ⟨_, rfl, fun j hj => ?_⟩⟩⟩
 rw [add_plain]
 rw [cell_of_row w g _ cur e _ hh]
 exact hcur j hj
theorem MR_form (h : MR e w base ok v xs) (_hp : 0 < xs.length) : ∃ g cap, v = .slice (some ⟨g, 0, none⟩) xs.length cap ∧ base ≤ g ∧ g < w.heap.size ∧ ∃ cells, w.heap[g]? = some (.cells cells e (cells.size, cells.size + 1)) := by
 obtain ⟨_, g, cap, cur, hv, hb, hh, _⟩ := h
 exact ⟨g, cap, hv, hb, blk_lt hh, cur, hh⟩
theorem MR_celln (_d : Int) (h : MR e W base ok (.slice (some ⟨g, 0, none⟩) n cap) xs) (i : Int) (h0 : 0 ≤ i) (hi : i < n) : W.cell? ⟨g, i.toNat, none⟩ = some (.int .u8 (rd xs i)) ∧ W.frozen? ⟨g, i.toNat, none⟩ = false := by
 obtain ⟨_, g', cap', cur, hv, _, hh, hl, hc, hm, hcur⟩ := h
 injection hv with h1 h2 h3
 injection h1 with h1
 injection h1 with h1
 subst h1; subst h3
 refine ⟨(cell_of_row W _ _ cur e _ hh).trans (hcur _ (by omega)), ?_⟩
 simp [World.frozen?, hh]
 omega
theorem MR_putn (h : MR e W base ok (.slice (some ⟨g, 0, none⟩) n cap) xs) (i : Int) (x : Int) : MR e (W.setCell ⟨g, i.toNat, none⟩ (.int .u8 x)) base ok (.slice (some ⟨g, 0, none⟩) n cap) (xs.set i.toNat x) := by
 obtain ⟨h0, g', cap', cur, hv, hb, hh, hl, hc, hm, hcur⟩ := h
 injection hv with h1 h2 h3
 injection h1 with h1
 injection h1 with h1
 subst h1; subst h3
 refine ⟨h0, g, cap, cur.setIfInBounds i.toNat (.int .u8 x), by rw [List.length_set, h2], hb, ?_, by rw [List.length_set]; exact hl, by simpa using hc, hm, fun j hj => ?_⟩
 · have hlt := blk_lt hh
   rw [Array.getElem?_eq_getElem hlt] at hh
   simp only [World.setCell, Array.getElem?_modify, if_true, Array.getElem?_eq_getElem hlt, Option.map_some, Array.size_setIfInBounds]
   rw [Option.some.inj hh]
   simp
 rw [List.length_set] at hj
 rw [Array.getElem?_setIfInBounds]
 by_cases c : i.toNat = j
 · subst c
   have : i.toNat < cur.size := by omega
   simp [this, List.getD, hj]
 rw [if_neg c, hcur j hj]
 simp [List.getD, c]
theorem MR_putg (h : MR e W base ok (.slice (some ⟨g, 0, none⟩) n cap) xs) (i : Int) (x : Int) : MR e (W.setCell ⟨g, i.toNat, none⟩ (.int .u8 x)) base ok (.slice (some ⟨g, 0, none⟩) n cap) (xs.set i.toNat x) ∧ W.grownBy (W.setCell ⟨g, i.toNat, none⟩ (.int .u8 x)) (some g) :=
 ⟨MR_putn h i x, rfl, rfl, rfl, by simp [World.setCell], fun k _ hk => Below.heap_setCell W _ _ k (fun h => hk (by rw [h]))⟩
theorem MR_take {c : Nat} (h : MR e w base ok (.slice A n c) xs) (hm : m ≤ xs.length) : MR e w base ok (.slice A m c) (xs.take m) := by
 obtain ⟨h0, g', cap', cur, hv, hb, hh, hl, hc, hmx, hcur⟩ := h
 injection hv with h1 h2 h3
 subst h1; subst h3
 refine ⟨fun k hk => h0 k (by simpa [Value.ownBlock] using hk), g', _, cur, by rw [List.length_take]; congr 1; omega, hb, hh, by rw [List.length_take]; omega, hc, hmx, fun j hj => ?_⟩
 rw [List.length_take] at hj
 rw [hcur j (by omega)]
 simp [List.getD, show j < m by omega]
theorem MR_conv (w : World) (e : Nat) (s : ByteArray) (hs : s.size ≤ 9223372036854775807) (base : Nat) (hb : base ≤ w.heap.size) (hcap : grownCap w s.size 0 e ≤ 9223372036854775807) (hge : s.size ≤ grownCap w s.size 0 e) : MR e (Lib.bytesWorld w e s) base (fun _ => True) (.slice (some ⟨w.heap.size, 0, none⟩) s.size (grownCap w s.size 0 e)) (bytesOf s) := by
 have hl : (bytesOf s).length = s.size := (bytes_reads w e s hs).1
 refine ⟨fun _ _ => trivial, w.heap.size, _, Lib.bytesCells w e s, by rw [hl], hb, Lib.bytesWorld_at_new w e s, by rw [hl]; exact hge, ?_, hcap, fun j hj => ?_⟩
 · simp [Lib.bytesCells]
   have : s.data.size = s.size := rfl
   omega
 have h2 := (bytes_reads w e s hs).2.2 (by omega)
 obtain ⟨ad, h3, h4⟩ := h2
 have h5 := h4 j (by omega)
 injection h3 with h3
 subst h3
 rw [add_plain] at h5
 rw [← h5]
 exact (cell_of_row _ _ _ _ e _ (Lib.bytesWorld_at_new w e s)).symm
end
section
variable {P : Program} {ops : Array Oper} {rest : List Oper} {o : Oper} {a : Act} {Q : Exit → Act → World → Prop}
theorem MR_zeros {e base cap g k : Nat} {ok : Nat → Prop} {xs : List Int} : ∀ (m o : Nat) (W : World), MR e W base ok (.slice (some ⟨g, 0, none⟩) k cap) xs → k ≤ o → MR e (W.setCells g o (List.replicate m (.int .u8 0))) base ok (.slice (some ⟨g, 0, none⟩) k cap) xs ∧ W.grownBy (W.setCells g o (List.replicate m (.int .u8 0))) (some g)
 | 0, o, W, h, _ => ⟨h, rfl, rfl, rfl, Nat.le_refl _, fun _ _ _ => rfl⟩
 | m + 1, o, W, h, ho => by
  have hk := (MR_reads' h).1
  have h1 := MR_putg h (o : Int) 0
  rw [Int.toNat_natCast, List.set_eq_of_length_le (by omega)] at h1
  have h2 := MR_zeros m (o + 1) _ h1.1 (by omega)
  rw [List.replicate_succ]
  exact ⟨h2.1, h1.2.trans h2.2⟩
theorem MR_clear (W : World) (t e ty : TypeId) {base k cap g n c : Nat} {ok : Nat → Prop} {xs : List Int} (ht : P.underlying t = some (.slice e)) (hv : ∀ w, (zeroValue e).run P w = .ok (.int .u8 0) w) (h : MR e W base ok (.slice (some ⟨g, 0, none⟩) k cap) xs) (hfit : k + n ≤ cap) :
 (Builtin.clear_ #[t] ty #[.slice (some ⟨g, k, none⟩) n c]).run P W = .ok (.tuple #[]) (W.setCells g k (List.replicate n (.int .u8 0))) := by
 obtain ⟨_, g', cap', cur, hv', _, hh, _, hc, _, _⟩ := h
 injection hv' with h1 h2 h3
 injection h1 with h1
 injection h1 with h1
 subst h1; subst h3
 have hz : (Builtin.zeroCells (Value.int .u8 0).cells n).toList = List.replicate n (.int .u8 0) := by
  apply List.ext_getElem
  · simp [Builtin.zeroCells, Value.cells]
  intro i h1 h2
  simp [Builtin.zeroCells, Value.cells, Nat.mod_one]
 have hst := run_storeCells_cells (P := P) g k (List.replicate n (.int .u8 0)) 0 W (fun j hj => by rw [cell_of_row W g _ cur e _ hh]; simp at hj ⊢; omega) (fun j hj => by simp at hj; simp [World.frozen?, hh]; omega) (fun v hv => by rw [List.mem_replicate] at hv; rw [hv.2]; rfl)
 simp only [Nat.add_zero] at hst
 cases n with
 | zero => simp [Builtin.clear_, run_underlying ht, World.setCells]
 | succ n => simp [Builtin.clear_, run_underlying ht, hv, hz, hst]
theorem MR_clear_step {e base cap g k n c2 off : Nat} {ok : Nat → Prop} {xs : List Int} {W : World} (hgd : o.guard = none) (x : Operand) (t : TypeId) (ho : o.op = .call { callee := .builtin .clear, args := #[x], argTypes := #[t] })
 (ht : P.underlying t = some (.slice e)) (hv : ∀ w, (zeroValue e).run P w = .ok (.int .u8 0) w) (hx : a.eval x = .slice (some ⟨g, off, none⟩) n c2) (hoff : off = k) (hfit : k + n ≤ cap)
 (HO : MR e W base ok (.slice (some ⟨g, 0, none⟩) k cap) xs)
 (h : ∀ w1, MR e w1 base ok (.slice (some ⟨g, 0, none⟩) k cap) xs → W.grownBy w1 (some g) → wpList P ops Q rest (a.put o.dst (.tuple #[])) w1) : wpList P ops Q (o :: rest) a W := by
 subst hoff
 have hz := MR_zeros n off W HO (Nat.le_refl _)
 refine wpList_plain hgd fun K hK => ?_
 unfold Oper.wp execOp
 simp only [ho, resolve, invoke, builtin, Sem.run_bind, Sem.run_pure, Result.andThen_ok, List.map_toArray, List.map_cons, List.map_nil, hx, MR_clear W t e o.type ht hv HO hfit]
 exact hK _ _ (h _ hz.1 hz.2)
end
theorem grown_le (w : World) (n : Nat) (e : Nat) (h : n ≤ 9223372036854775807) : n ≤ grownCap w n 0 e ∧ grownCap w n 0 e ≤ 9223372036854775807 := by
 unfold grownCap Question.cut
 simp only []
 have := Nat.mod_lt (w.tape w.drawn (Question.appendCap n 0 e)) (show 0 < 2 ^ 63 - n by omega)
 omega
theorem zda0_ {p : Prop} (h : p := by first | (with_reducible assumption) | assumption) : p := h
theorem zdb0_ {p : Prop} (h : p := by first | (with_reducible assumption) | assumption) : p := h
theorem zdb1_ {p : Prop} (h : p := by first | rfl | (simp; done) | (simp [*]; done)) : p := h
mutual
def gd_ins.l0 : Nat → List Int → Int → Int → Int → Option (List Int)
 | 0, _, _, _, _ => none
 | k + 1, x0, x1, x2, x6 => if x6 < x2 then (gd_ins.l1 k x0 x1 x2 x6 x6) else (some x0)
def gd_ins.l1 : Nat → List Int → Int → Int → Int → Int → Option (List Int)
 | 0, _, _, _, _, _ => none
 | k + 1, x0, x1, x2, x6, x7 => if x7 > x1 then (if 0 ≤ x7 then (if x7 < (x0.length : Int) then (if 0 ≤ (wrap64 (x7 - 1)) then (if (wrap64 (x7 - 1)) < (x0.length : Int) then ((cmp_Less_byte.f (rd x0 x7) (rd x0 (wrap64 (x7 - 1)))).bind fun t149 => (if t149 = true then (gd_ins.l1 k ((x0.set (x7 : Int).toNat (rd x0 (wrap64 (x7 - 1)))).set ((wrap64 (x7 - 1)) : Int).toNat (rd x0 x7)) x1 x2 x6 (wrap64 (x7 - 1))) else (gd_ins.l0 k x0 x1 x2 (wrap64 (x6 + 1))))) else (none)) else (none)) else (none)) else (none)) else (gd_ins.l0 k x0 x1 x2 (wrap64 (x6 + 1)))
end
def gd_ins.f (k : Nat) (l0 : List Int) (a1 : Int) (a2 : Int) : Option (List Int) := gd_ins.l0 k l0 a1 a2 (wrap64 (a1 + 1))
theorem gd_ins.mono_l : ∀ k, (∀ y0 y1 y2 y3, LeO (gd_ins.l0 k y0 y1 y2 y3) (gd_ins.l0 (k + 1) y0 y1 y2 y3)) ∧ (∀ y0 y1 y2 y3 y4, LeO (gd_ins.l1 k y0 y1 y2 y3 y4) (gd_ins.l1 (k + 1) y0 y1 y2 y3 y4))
 | 0 => ⟨fun _ _ _ _ r h => by simp [gd_ins.l0] at h, fun _ _ _ _ _ r h => by simp [gd_ins.l1] at h⟩
 | k + 1 => by
  obtain ⟨ih0, ih1⟩ := gd_ins.mono_l k
  refine ⟨?_, ?_⟩
  · intro y0 y1 y2 y3
    unfold gd_ins.l0
    repeat' first
    | (with_reducible exact ih0 _ _ _ _)
    | (with_reducible exact ih1 _ _ _ _ _)
    | (with_reducible exact LeO.refl _)
    | (with_reducible exact LeO.none _)
    | (with_reducible refine LeO.ite ?_ ?_)
    | (with_reducible refine LeO.bind ?_ (fun _ => ?_))
    | exact LeO.none _
    | refine LeO.ite ?_ ?_
    | refine LeO.bind ?_ (fun _ => ?_)
  intro y0 y1 y2 y3 y4
  unfold gd_ins.l1
  repeat' first
  | (with_reducible exact ih0 _ _ _ _)
  | (with_reducible exact ih1 _ _ _ _ _)
  | (with_reducible exact LeO.refl _)
  | (with_reducible exact LeO.none _)
  | (with_reducible refine LeO.ite ?_ ?_)
  | (with_reducible refine LeO.bind ?_ (fun _ => ?_))
  | exact LeO.none _
  | refine LeO.ite ?_ ?_
  | refine LeO.bind ?_ (fun _ => ?_)
theorem gd_ins.mono : ∀ a0 a1 a2 k, LeO (gd_ins.f k a0 a1 a2) (gd_ins.f (k + 1) a0 a1 a2) := by
 intro a0 a1 a2 k
 obtain ⟨ih0, ih1⟩ := gd_ins.mono_l k
 unfold gd_ins.f
 repeat' first
  | (with_reducible exact ih0 _ _ _ _)
  | (with_reducible exact ih1 _ _ _ _ _)
  | (with_reducible exact LeO.refl _)
  | (with_reducible exact LeO.none _)
  | (with_reducible refine LeO.ite ?_ ?_)
  | (with_reducible refine LeO.bind ?_ (fun _ => ?_))
  | exact LeO.none _
  | refine LeO.ite ?_ ?_
  | refine LeO.bind ?_ (fun _ => ?_)
def gd_ins.T4 : Bool × List (List Nat × List Nat) := (true, [([], []), ([], []), ([0, 1], [0, 1]), ([2], [2]), ([3], [3]), ([3], [3]), ([4, 5, 3], [3, 4, 5]), ([6, 3], [3, 6]), ([3], [3]), ([3], [3]), ([9, 3], [3, 9]), ([8, 10, 3], [3, 8, 10]), ([11, 3], [3, 11]), ([7, 12, 3, 3], [3, 7, 12]), ([3, 13], [3, 13])])
def gd_ins.B4 : List Nat := [0, 0, 3, 7, 15, 15, 63, 127, 15, 15, 527, 1807, 3855, 8191, 16383]
theorem gd_ins.tab4 : rtab .any (opsOf Tryz.f157 4) = gd_ins.T4 := by kernel_rfl
theorem gd_ins.bits4 : waitsOk gd_ins.T4.2 gd_ins.B4 = true := by kernel_rfl
def gd_ins.T6 : Bool × List (List Nat × List Nat) := (true, [([], []), ([], []), ([], []), ([], []), ([3], [3]), ([], []), ([], []), ([6], [6]), ([5, 7], [5, 7]), ([8], [8]), ([], []), ([], []), ([10, 11], [10, 11]), ([12], [12]), ([0, 1, 0, 1, 5, 6, 7, 8, 9, 13], [0, 1]), ([14, 9, 0, 1, 5, 6, 7, 8, 9, 13], [9, 14]), ([2, 4, 0, 1, 2, 3, 4, 5, 6, 7, 8, 9, 10, 11, 12, 13, 14, 15], [2, 4]), ([16, 13, 15, 0, 1, 2, 3, 4, 5, 6, 7, 8, 9, 10, 11, 12, 13, 14, 15], [13, 16])])
def gd_ins.B6 : List Nat := [0, 0, 0, 0, 8, 0, 0, 64, 224, 480, 0, 0, 3072, 7168, 16355, 32739, 65535, 131071]
theorem gd_ins.tab6 : rtab .any (opsOf Tryz.f157 6) = gd_ins.T6 := by kernel_rfl
theorem gd_ins.bits6 : waitsOk gd_ins.T6.2 gd_ins.B6 = true := by kernel_rfl
set_option maxHeartbeats 8000000 in
set_option maxRecDepth 100000 in
theorem gd_ins.calls (k : Nat) (P0_ : Nat → Prop) (u9000_ : Value) (l0 : List Int) (a1 : Int) (a2 : Int) (r : List Int) (w0 w : World) (hB : Below w0.heap.size w0 w) (ho0 : MR 5 w w0.heap.size P0_ u9000_ l0) (h : gd_ins.f k l0 a1 a2 = some r) :
 Calls Tryz.prog 157 #[u9000_, .int .i64 a1, .int .i64 a2] w fun e w' => e = .returned (.tuple #[]) ∧ MR 5 w' w0.heap.size (fun k_ => (P0_ k_ ∨ w.heap.size ≤ k_)) u9000_ r ∧ Below w0.heap.size w0 w' ∧ Kept w w' (fun k_ => P0_ k_) := by
 have HO0 := Aside0.mk (show MR 5 w w0.heap.size (fun k_ => (P0_ k_ ∨ w.heap.size ≤ k_)) u9000_ l0 from MR_mono ho0 (fun k_ hk => (.inl hk)))
 have HK := Aside0.mk (Kept.refl w (fun k_ => P0_ k_))
 have HW0 := Aside0.mk hB.size
 have HB := Aside0.mk hB
 clear hB
 unfold gd_ins.f at h
 have H := h
 clear h
 have H' := Aside0.mk H
 clear H
 go_enter Tryz.func157, Tryz.ntmps157
 go_wp2
 go_loopg [6] k (fun kq v6 w' => ∃ (x0_1 : List Int) (x6_1 : Int), v6 = .int .i64 x6_1 ∧ Aside0 (gd_ins.l0 kq x0_1 a1 a2 x6_1 = some r) ∧ Aside0 (kq ≤ k) ∧ Aside0 (MR 5 w' w0.heap.size (fun k_ => (P0_ k_ ∨ w.heap.size ≤ k_)) u9000_ x0_1) ∧ Aside0 (Kept w w' (fun k_ => P0_ k_)) ∧ Aside0 (Below w0.heap.size w0 w'))
 case atStart => exact ⟨(l0), (wrap64 (a1 + 1)), zV_, H', ⟨Nat.le_refl _⟩, ⟨by (with_reducible repeat (first | apply MR_alloc | apply MR_drewN | apply MR_drew)); exact HO0.out⟩, ⟨by repeat (first | (with_reducible first | exact HK.out | apply Kept.alloc | apply Kept.drewN | apply Kept.drew) | exact HK.out)⟩, ⟨zB_⟩⟩
 case round =>
  clear H'
  obtain ⟨x0_1, x6_1, rfl, HA, HK1, HO_0, HK, HB⟩ := hrel
  cases gk with
  | zero => exact absurd HA.out (by simp [gd_ins.l0])
  | succ k1 =>
   have H := HA.out
   clear HA
   simp only [gd_ins.l0] at H
   by_cases c4 : x6_1 < a2
   rotate_left
   · rw [if_neg c4] at H
     have c4b0 := decide_eq_false c4
     clear c4
     obtain rfl := Option.some.inj H
     go_wp2
     first | go_end0 | ((try simp only [Exit.inBlock, Exit.then]); refine bodyPost_ret (results_none rfl _ _ _) rfl ?_)
     exact ⟨zR_, by (with_reducible repeat (first | apply MR_alloc | apply MR_drewN | apply MR_drew)); exact HO_0.out, by repeat (first | (with_reducible first | exact HB.out | apply below_alloc | apply pw_below_drewN | apply below_drew1) | exact HB.out), by repeat (first | (with_reducible first | exact HK.out | apply Kept.alloc | apply Kept.drewN | apply Kept.drew) | exact HK.out)⟩
   rw [if_pos c4] at H
   have c4b0 := decide_eq_true c4
   clear c4
   have H' := Aside0.mk H
   clear H
   go_wp2
   go_loopg [7] k1 (fun kq v7 w' => ∃ (x0_2 : List Int) (x7_2 : Int), v7 = .int .i64 x7_2 ∧ Aside0 (gd_ins.l1 kq x0_2 a1 a2 x6_1 x7_2 = some r) ∧ Aside0 (kq ≤ k1) ∧ Aside0 (MR 5 w' w0.heap.size (fun k_ => (P0_ k_ ∨ w.heap.size ≤ k_)) u9000_ x0_2) ∧ Aside0 (Kept w w' (fun k_ => P0_ k_)) ∧ Aside0 (Below w0.heap.size w0 w'))
   case atStart => exact ⟨(x0_1), (x6_1), zV_, H', ⟨Nat.le_refl _⟩, ⟨by (with_reducible repeat (first | apply MR_alloc | apply MR_drewN | apply MR_drew)); exact HO_0.out⟩, ⟨by repeat (first | (with_reducible first | exact HK.out | apply Kept.alloc | apply Kept.drewN | apply Kept.drew) | exact HK.out)⟩, ⟨zB_⟩⟩
   case round =>
    clear H'
    obtain ⟨x0_2, x7_2, rfl, HA, HK2, HO_0, HK, HB⟩ := hrel
    cases gk with
    | zero => exact absurd HA.out (by simp [gd_ins.l1])
    | succ k2 =>
     have H := HA.out
     clear HA
     simp only [gd_ins.l1] at H
     by_cases c5 : x7_2 > a1
     · rw [if_pos c5] at H
       have c5b0 : decide (a1 < x7_2) = true := decide_eq_true c5
       clear c5
       replace H := gd_ H; obtain ⟨c6, H⟩ := H
       have c6b0 : decide (0 ≤ x7_2) = true := decide_eq_true c6
       clear c6
       replace H := gd_ H; obtain ⟨c7, H⟩ := H
       have c7b0 : decide (x7_2 < (x0_2.length : Int)) = true := decide_eq_true c7
       clear c7
       obtain ⟨ji8, hji8⟩ : ∃ j_ : Int, (wrap64 (x7_2 - 1)) = j_ := ⟨_, rfl⟩
       replace H : (if 0 ≤ (ji8) then (if (ji8) < (x0_2.length : Int) then ((cmp_Less_byte.f (rd x0_2 x7_2) (rd x0_2 (ji8))).bind fun t149 => (if t149 = true then (gd_ins.l1 k2 ((x0_2.set (x7_2 : Int).toNat (rd x0_2 (ji8))).set ((ji8) : Int).toNat (rd x0_2 x7_2)) a1 a2 x6_1 ji8) else (gd_ins.l0 k2 x0_2 a1 a2 (wrap64 (x6_1 + 1))))) else (none)) else (none)) = some r := by first | (rw [hji8] at H; exact H) | (simp only [hji8] at H ⊢; exact H)
       have hji8w : (IntKind.i64.wrap (x7_2 - 1)) = ji8 := (i64_w _).trans hji8
       replace H := gd_ H; obtain ⟨c9, H⟩ := H
       have c9b0 : decide (0 ≤ (ji8)) = true := decide_eq_true c9
       clear c9
       replace H := gd_ H; obtain ⟨c10, H⟩ := H
       have c10b0 : decide ((ji8) < (x0_2.length : Int)) = true := decide_eq_true c10
       clear c10
       replace H := bd_ H; obtain ⟨t149, A11, H⟩ := H
       by_cases c12 : t149 = true
       · subst c12
         rw [if_pos rfl] at H
         obtain ⟨y152, hy152⟩ : ∃ y_ : List Int, y_ = (x0_2.set (x7_2 : Int).toNat (rd x0_2 (ji8))) := ⟨_, rfl⟩
         replace H : (gd_ins.l1 k2 (y152.set ((ji8) : Int).toNat (rd x0_2 x7_2)) a1 a2 x6_1 ji8) = some r := by first | (rw [hy152]; with_reducible exact H) | (have H2_ := (Option.bind_some _ _).symm.trans H; rw [hy152]; with_reducible exact H2_) | (have H2_ := (Option.bind_some _ _).symm.trans H; with_reducible exact H2_) | with_reducible exact H | (rw [hy152]; exact H) | exact H
         have Ny152 := Aside0.mk hy152
         clear hy152
         obtain ⟨y153, hy153⟩ : ∃ y_ : List Int, y_ = (y152.set ((ji8) : Int).toNat (rd x0_2 x7_2)) := ⟨_, rfl⟩
         replace H : (gd_ins.l1 k2 y153 a1 a2 x6_1 ji8) = some r := by first | (rw [hy153]; with_reducible exact H) | (have H2_ := (Option.bind_some _ _).symm.trans H; rw [hy153]; with_reducible exact H2_) | (have H2_ := (Option.bind_some _ _).symm.trans H; with_reducible exact H2_) | with_reducible exact H | (rw [hy153]; exact H) | exact H
         have Ny153 := Aside0.mk hy153
         clear hy153
         have H' := Aside0.mk H
         clear H
         try go_wp2
         replace HO_0 := Aside0.mk (MR_drew HO_0.out)
         replace HK := Aside0.mk (Kept.drew HK.out)
         replace HB := Aside0.mk (below_drew1 HB.out)
         obtain ⟨Ao16, co16, eo16⟩ := MR_slice HO_0.out
         (first | subst eo16 | (injection eo16 with f1_ f2_ f3_; have f4_ := f1_.symm; have f5_ := f3_.symm; clear f1_ f2_ f3_; subst f4_; subst f5_))
         have p147 : 0 ≤ (x7_2 : Int) := of_decide_eq_true zda0_
         have q147 : x7_2 < (x0_2.length : Int) := of_decide_eq_true zda0_
         obtain ⟨ad147, e147, hx147_0⟩ := Kd.at_int (MR_reads' HO_0.out).2.2 x7_2 p147 q147
         cases e147
         replace p147 := eq_true p147
         replace q147 := eq_true q147
         have p148 : 0 ≤ ((ji8) : Int) := of_decide_eq_true zda0_
         have q148 : (ji8) < (x0_2.length : Int) := of_decide_eq_true zda0_
         obtain ⟨ad148, e148, hx148_0⟩ := Kd.at_int (MR_reads' HO_0.out).2.2 (ji8) p148 q148
         obtain rfl : ad147 = ad148 := (by injection e148)
         replace p148 := eq_true p148
         replace q148 := eq_true q148
         refine start_ (n := 15) (S := fun w' => w'.cell? (ad147.add (x7_2).toNat) = some (.int .u8 (rd x0_2 x7_2)) ∧ w'.cell? (ad147.add ((ji8)).toNat) = some (.int .u8 (rd x0_2 (ji8)))) (ds := []) #[false, false, false, false, false, false, false, false, false, false, false, false, false, false, false] (by kernel_rfl) rfl rfl ⟨hx147_0, hx148_0⟩ (fun hHeld => ?_); refine with_tabW gd_ins.tab4 gd_ins.bits4 (fun HT_ HW_ => ?_)
         generalize wr.drew = w15 at HO_0 HK HB hx147_0 hx148_0 hHeld ⊢
         refine pq_ 0 16 ?_
         refine pq_ 1 17 ?_
         refine pq_ 2 18 ?_
         refine pq_ 3 19 ?_
         refine pq_ 4 20 ?_
         refine pq_ 5 21 ?_
         refine pq_ 6 22 ?_
         refine pq_ 8 24 ?_
         refine pq_ 9 25 ?_
         refine pq_ 10 26 ?_
         refine pq_ 11 27 ?_
         refine take_ (i := 7) (N := some 23) (v := ?_) (a' := ?_) #[true, true, true, true, true, true, true, true, true, true, true, true, false, false, false] rfl rfl (take_ofW HT_.out HW_.out (by kernel_rfl)) (fun _ _ _ h => h) (Or.inl ⟨by rfl, ?_⟩) hHeld ?_ ?_
         rotate_left
         · rintro w' ⟨s0, s1⟩
           go_simp
           with_reducible rfl
         rotate_left
         · simp only [Act.put, List.setIfInBounds_toArray, List.set_cons_zero, List.set_cons_succ, i64_w, i32_w]
           rfl
         refine take_ (i := 12) (N := some 28) (v := ?_) (a' := ?_) #[true, true, true, true, true, true, true, true, true, true, true, true, true, false, false] rfl rfl (take_ofW HT_.out HW_.out (by kernel_rfl)) (fun _ _ _ h => h) (Or.inl ⟨by rfl, ?_⟩) hHeld ?_ ?_
         rotate_left
         · rintro w' ⟨s0, s1⟩
           go_simp
           with_reducible rfl
         rotate_left
         · simp only [Act.put, List.setIfInBounds_toArray, List.set_cons_zero, List.set_cons_succ, i64_w, i32_w]
           rfl
         refine one_ (i := 13) (N := some 29) #[true, true, true, true, true, true, true, true, true, true, true, true, true, true, false] rfl rfl (one_of HT_.out (by kernel_rfl)) (by decide) (fun K hK => ?_)
         refine goes_ Tryz.func163 (by kernel_rfl) rfl #[.int .u8 (rd x0_2 x7_2), .int .u8 (rd x0_2 (ji8))] (by rfl) rfl rfl zq6_2_ ?_
         with_reducible refine (cmp_Less_byte.calls (rd x0_2 x7_2) (rd x0_2 (ji8)) true _ A11.out).mono ?_
         rintro e w' ⟨rfl, ⟨nd, rfl⟩⟩
         refine ⟨_, rfl, ?_⟩
         refine hK.out _ _ ⟨hHeld.1, hHeld.2⟩ (fun hHeld => ?_)
         clear hK K
         refine norm_ (a' := ?_) ?_ ?_
         rotate_left
         · show Act.put _ (some 29) _ = _
           simp only [Act.put, List.setIfInBounds_toArray, List.set_cons_zero, List.set_cons_succ, i64_w, i32_w]
           rfl
         refine pq_ 14 30 ?_
         refine done_ (done_of HT_.out (by kernel_rfl)) ?_
         try go_wp2
         (try (rw [drewN_self w15]; generalize hq_ : World.drewN w15 _ = w15; have n0_ : Aside0 (MR 5 w15 w0.heap.size (fun k_ => (P0_ k_ ∨ w.heap.size ≤ k_)) (.slice (some ad147) x0_2.length co16) x0_2) := ⟨by rw [← hq_]; exact (by (with_reducible repeat (first | apply MR_alloc | apply MR_drewN | apply MR_drew)); exact HO_0.out)⟩; have n1_ : Aside0 (Kept w w15 (fun k_ => P0_ k_)) := ⟨by rw [← hq_]; exact (by repeat (first | (with_reducible first | exact HK.out | apply Kept.alloc | apply Kept.drewN | apply Kept.drew) | exact HK.out))⟩; have n2_ : Aside0 (Below w0.heap.size w0 w15) := ⟨by rw [← hq_]; exact zB_⟩; clear HO_0 HK HB hq_; have HO_0 := n0_; have HK := n1_; have HB := n2_; clear n0_ n1_ n2_))
         replace HO_0 := Aside0.mk (MR_drew HO_0.out)
         replace HK := Aside0.mk (Kept.drew HK.out)
         replace HB := Aside0.mk (below_drew1 HB.out)
         have p150 : 0 ≤ ((ji8) : Int) := of_decide_eq_true zda0_
         have q150 : (ji8) < (x0_2.length : Int) := of_decide_eq_true zda0_
         obtain ⟨ad150, e150, hx150_0⟩ := Kd.at_int (MR_reads' HO_0.out).2.2 (ji8) p150 q150
         obtain rfl : ad147 = ad150 := (by injection e150)
         replace p150 := eq_true p150
         replace q150 := eq_true q150
         have p151 : 0 ≤ (x7_2 : Int) := of_decide_eq_true zda0_
         have q151 : x7_2 < (x0_2.length : Int) := of_decide_eq_true zda0_
         obtain ⟨ad151, e151, hx151_0⟩ := Kd.at_int (MR_reads' HO_0.out).2.2 x7_2 p151 q151
         obtain rfl : ad147 = ad151 := (by injection e151)
         replace p151 := eq_true p151
         replace q151 := eq_true q151
         have p13 : 0 ≤ (x7_2 : Int) := of_decide_eq_true zda0_
         have q13 : (x7_2 : Int) < ((x0_2.length : Int) : Int) := of_decide_eq_true zda0_
         obtain ⟨go13, co13, eo13, gb13, gl13, cl13, HG13⟩ := MR_form HO_0.out (by omega)
         (first | cases eo13 | (injection eo13 with ea_ en_ ec_; (first | subst ea_ | (injection ea_ with ea_; subst ea_)); subst ec_; clear en_))
         have GB13 := Aside0.mk gb13
         have GG13 := Aside0.mk HG13
         clear gb13 gl13 HG13
         have HMgo13 := Aside0.mk (show (P0_ go13 ∨ w.heap.size ≤ go13) from (HO_0.out.1 _ rfl))
         (first | simp only [add_plain] at hx147_0 | skip)
         (first | simp only [add_plain] at hx148_0 | skip)
         (first | simp only [add_plain] at hx150_0 | skip)
         (first | simp only [add_plain] at hx151_0 | skip)
         obtain ⟨hx13_0, hf13_0⟩ := MR_celln 0 HO_0.out (x7_2 : Int) p13 q13
         replace p13 := eq_true p13
         replace q13 := eq_true q13
         have HP18 := MR_putn HO_0.out (x7_2 : Int) (rd x0_2 (ji8))
         rw [← Ny152.out] at HP18
         have HQ18 := Aside0.mk HP18
         clear HP18
         have p14 : 0 ≤ ((ji8) : Int) := of_decide_eq_true zda0_
         have q14 : ((ji8) : Int) < ((x0_2.length : Int) : Int) := of_decide_eq_true zda0_
         obtain ⟨hx14_0, hf14_0⟩ := MR_celln 0 HQ18.out ((ji8) : Int) p14 q14
         replace p14 := eq_true p14
         replace q14 := eq_true q14
         have HP19 := MR_putn HQ18.out ((ji8) : Int) (rd x0_2 x7_2)
         rw [← Ny153.out] at HP19
         have HQ19 := Aside0.mk HP19
         clear HP19
         refine start_ (n := 18) (S := fun w' => w'.cell? ⟨go13, ((ji8)).toNat, none⟩ = some (.int .u8 (rd x0_2 (ji8))) ∧ w'.cell? ⟨go13, (x7_2).toNat, none⟩ = some (.int .u8 (rd x0_2 x7_2))) (ds := [15, 17]) #[false, false, false, false, false, false, false, false, false, false, false, false, false, false, false, false, false, false] (by kernel_rfl) rfl rfl ⟨hx150_0, hx151_0⟩ (fun hHeld => ?_); refine with_tabW gd_ins.tab6 gd_ins.bits6 (fun HT_ HW_ => ?_)
         generalize w15.drew = w17 at HO_0 HK HB GG13 HQ18 HQ19 hf13_0 hf14_0 hx13_0 hx147_0 hx148_0 hx14_0 hx150_0 hx151_0 hHeld ⊢
         refine pq_ 0 33 ?_
         refine pq_ 1 34 ?_
         refine pq_ 2 35 ?_
         refine pq_ 3 36 ?_
         refine pq_ 4 37 ?_
         refine pq_ 5 38 ?_
         refine pq_ 6 39 ?_
         refine pq_ 7 40 ?_
         refine pq_ 8 41 ?_
         refine pq_ 10 43 ?_
         refine pq_ 11 44 ?_
         refine pq_ 12 45 ?_
         refine take_ (i := 9) (N := some 42) (v := ?_) (a' := ?_) #[true, true, true, true, true, true, true, true, true, true, true, true, true, false, false, false, false, false] rfl rfl (take_ofW HT_.out HW_.out (by kernel_rfl)) (fun _ _ _ h => h) (Or.inl ⟨by rfl, ?_⟩) hHeld ?_ ?_
         rotate_left
         · rintro w' ⟨s0, s1⟩
           go_simp
           with_reducible rfl
         rotate_left
         · simp only [Act.put, List.setIfInBounds_toArray, List.set_cons_zero, List.set_cons_succ, i64_w, i32_w]
           rfl
         refine take_ (i := 13) (N := some 46) (v := ?_) (a' := ?_) #[true, true, true, true, true, true, true, true, true, true, true, true, true, true, false, false, false, false] rfl rfl (take_ofW HT_.out HW_.out (by kernel_rfl)) (fun _ _ _ h => h) (Or.inl ⟨by rfl, ?_⟩) hHeld ?_ ?_
         rotate_left
         · rintro w' ⟨s0, s1⟩
           go_simp
           with_reducible rfl
         rotate_left
         · simp only [Act.put, List.setIfInBounds_toArray, List.set_cons_zero, List.set_cons_succ, i64_w, i32_w]
           rfl
         refine pq_ 14 47 ?_
         refine last_ (i := 15) (N := none) #[true, true, true, true, true, true, true, true, true, true, true, true, true, true, true, true, false, false] rfl rfl (one_of HT_.out (by kernel_rfl)) (by decide) (fun K hK => ?_)
         refine skip_ (w1 := ?_) (by rfl) rfl ?_ ?_
         rotate_left
         · go_simp
           rfl
         refine hK.out _ _ ?_
         clear hK K
         refine pq_ 16 48 ?_
         refine last_ (i := 17) (N := none) #[true, true, true, true, true, true, true, true, true, true, true, true, true, true, true, true, true, true] rfl rfl (one_of HT_.out (by kernel_rfl)) (by decide) (fun K hK => ?_)
         refine skip_ (w1 := ?_) (by rfl) rfl ?_ ?_
         rotate_left
         · go_simp
           rfl
         refine hK.out _ _ ?_
         clear hK K
         refine done_ (done_of HT_.out (by kernel_rfl)) ?_
         try go_wp2
         go_roundg k2
         case measure => have := HK1.out; have := HK2.out; omega
         case rel => exact ⟨(y153), (ji8), (by first | rfl | (simp; done) | (simp only [← hji8] <;> (first | rfl | simp)) | (simp [*]; done)), H', ⟨by have := HK1.out; have := HK2.out; omega⟩, ⟨by (with_reducible repeat (first | apply MR_alloc | apply MR_drewN | apply MR_drew)); exact HQ19.out⟩, ⟨by repeat (first | (with_reducible first | exact HK.out | apply Kept.alloc | apply Kept.drewN | apply Kept.drew | refine Kept.setCell ?_ HMgo13.out _ | refine Kept.setCell ?_ HMgo13.out _) | exact HK.out)⟩, ⟨by repeat (first | (with_reducible first | exact HB.out | apply below_alloc | apply pw_below_drewN | apply below_drew1 | refine below_set ?_ GB13.out | refine below_set ?_ GB13.out) | exact HB.out)⟩⟩
       replace H := bf_ c12 H; obtain ⟨rfl, H⟩ := H
       have H' := Aside0.mk H
       clear H
       try go_wp2
       replace HO_0 := Aside0.mk (MR_drew HO_0.out)
       replace HK := Aside0.mk (Kept.drew HK.out)
       replace HB := Aside0.mk (below_drew1 HB.out)
       obtain ⟨Ao21, co21, eo21⟩ := MR_slice HO_0.out
       (first | subst eo21 | (injection eo21 with f1_ f2_ f3_; have f4_ := f1_.symm; have f5_ := f3_.symm; clear f1_ f2_ f3_; subst f4_; subst f5_))
       have p147 : 0 ≤ (x7_2 : Int) := of_decide_eq_true zda0_
       have q147 : x7_2 < (x0_2.length : Int) := of_decide_eq_true zda0_
       obtain ⟨ad147, e147, hx147_0⟩ := Kd.at_int (MR_reads' HO_0.out).2.2 x7_2 p147 q147
       cases e147
       replace p147 := eq_true p147
       replace q147 := eq_true q147
       have p148 : 0 ≤ ((ji8) : Int) := of_decide_eq_true zda0_
       have q148 : (ji8) < (x0_2.length : Int) := of_decide_eq_true zda0_
       obtain ⟨ad148, e148, hx148_0⟩ := Kd.at_int (MR_reads' HO_0.out).2.2 (ji8) p148 q148
       obtain rfl : ad147 = ad148 := (by injection e148)
       replace p148 := eq_true p148
       replace q148 := eq_true q148
       refine start_ (n := 15) (S := fun w' => w'.cell? (ad147.add (x7_2).toNat) = some (.int .u8 (rd x0_2 x7_2)) ∧ w'.cell? (ad147.add ((ji8)).toNat) = some (.int .u8 (rd x0_2 (ji8)))) (ds := []) #[false, false, false, false, false, false, false, false, false, false, false, false, false, false, false] (by kernel_rfl) rfl rfl ⟨hx147_0, hx148_0⟩ (fun hHeld => ?_); refine with_tabW gd_ins.tab4 gd_ins.bits4 (fun HT_ HW_ => ?_)
       generalize wr.drew = w20 at HO_0 HK HB hx147_0 hx148_0 hHeld ⊢
       refine pq_ 0 16 ?_
       refine pq_ 1 17 ?_
       refine pq_ 2 18 ?_
       refine pq_ 3 19 ?_
       refine pq_ 4 20 ?_
       refine pq_ 5 21 ?_
       refine pq_ 6 22 ?_
       refine pq_ 8 24 ?_
       refine pq_ 9 25 ?_
       refine pq_ 10 26 ?_
       refine pq_ 11 27 ?_
       refine take_ (i := 7) (N := some 23) (v := ?_) (a' := ?_) #[true, true, true, true, true, true, true, true, true, true, true, true, false, false, false] rfl rfl (take_ofW HT_.out HW_.out (by kernel_rfl)) (fun _ _ _ h => h) (Or.inl ⟨by rfl, ?_⟩) hHeld ?_ ?_
       rotate_left
       · rintro w' ⟨s0, s1⟩
         go_simp
         with_reducible rfl
       rotate_left
       · simp only [Act.put, List.setIfInBounds_toArray, List.set_cons_zero, List.set_cons_succ, i64_w, i32_w]
         rfl
       refine take_ (i := 12) (N := some 28) (v := ?_) (a' := ?_) #[true, true, true, true, true, true, true, true, true, true, true, true, true, false, false] rfl rfl (take_ofW HT_.out HW_.out (by kernel_rfl)) (fun _ _ _ h => h) (Or.inl ⟨by rfl, ?_⟩) hHeld ?_ ?_
       rotate_left
       · rintro w' ⟨s0, s1⟩
         go_simp
         with_reducible rfl
       rotate_left
       · simp only [Act.put, List.setIfInBounds_toArray, List.set_cons_zero, List.set_cons_succ, i64_w, i32_w]
         rfl
       refine one_ (i := 13) (N := some 29) #[true, true, true, true, true, true, true, true, true, true, true, true, true, true, false] rfl rfl (one_of HT_.out (by kernel_rfl)) (by decide) (fun K hK => ?_)
       refine goes_ Tryz.func163 (by kernel_rfl) rfl #[.int .u8 (rd x0_2 x7_2), .int .u8 (rd x0_2 (ji8))] (by rfl) rfl rfl zq6_2_ ?_
       with_reducible refine (cmp_Less_byte.calls (rd x0_2 x7_2) (rd x0_2 (ji8)) false _ A11.out).mono ?_
       rintro e w' ⟨rfl, ⟨nd, rfl⟩⟩
       refine ⟨_, rfl, ?_⟩
       refine hK.out _ _ ⟨hHeld.1, hHeld.2⟩ (fun hHeld => ?_)
       clear hK K
       refine norm_ (a' := ?_) ?_ ?_
       rotate_left
       · show Act.put _ (some 29) _ = _
         simp only [Act.put, List.setIfInBounds_toArray, List.set_cons_zero, List.set_cons_succ, i64_w, i32_w]
         rfl
       refine pq_ 14 30 ?_
       refine done_ (done_of HT_.out (by kernel_rfl)) ?_
       try go_wp2
       go_roundg k2
       case measure => have := HK1.out; have := HK2.out; omega
       case rel => exact ⟨(x0_2), (wrap64 (x6_1 + 1)), zV_, H', ⟨by have := HK1.out; have := HK2.out; omega⟩, ⟨by (with_reducible repeat (first | apply MR_alloc | apply MR_drewN | apply MR_drew)); exact HO_0.out⟩, ⟨by repeat (first | (with_reducible first | exact HK.out | apply Kept.alloc | apply Kept.drewN | apply Kept.drew) | exact HK.out)⟩, ⟨zB_⟩⟩
     rw [if_neg c5] at H
     have c5b0 : decide (a1 < x7_2) = false := decide_eq_false c5
     clear c5
     have H' := Aside0.mk H
     clear H
     try go_wp2
     replace HO_0 := Aside0.mk (MR_drew HO_0.out)
     replace HK := Aside0.mk (Kept.drew HK.out)
     replace HB := Aside0.mk (below_drew1 HB.out)
     refine start_ (n := 15) (S := fun w' => True) (ds := []) #[false, false, false, false, false, false, false, false, false, false, false, false, false, false, false] (by kernel_rfl) rfl rfl trivial (fun hHeld => ?_); refine with_tabW gd_ins.tab4 gd_ins.bits4 (fun HT_ HW_ => ?_)
     generalize wr.drew = w22 at HO_0 HK HB hHeld ⊢
     refine pq_ 0 16 ?_
     refine pq_ 1 17 ?_
     refine pq_ 2 18 ?_
     refine pq_ 3 19 ?_
     refine pn_ 4 20 ?_
     refine pn_ 5 21 ?_
     refine pn_ 6 22 ?_
     refine pn_ 7 23 ?_
     refine pn_ 8 24 ?_
     refine pn_ 9 25 ?_
     refine pn_ 10 26 ?_
     refine pn_ 11 27 ?_
     refine pn_ 12 28 ?_
     refine pn_ 13 29 ?_
     refine pq_ 14 30 ?_
     refine done_ (done_of HT_.out (by kernel_rfl)) ?_
     try go_wp2
     go_roundg k2
     case measure => have := HK1.out; have := HK2.out; omega
     case rel => exact ⟨(x0_2), (wrap64 (x6_1 + 1)), zV_, H', ⟨by have := HK1.out; have := HK2.out; omega⟩, ⟨by (with_reducible repeat (first | apply MR_alloc | apply MR_drewN | apply MR_drew)); exact HO_0.out⟩, ⟨by repeat (first | (with_reducible first | exact HK.out | apply Kept.alloc | apply Kept.drewN | apply Kept.drew) | exact HK.out)⟩, ⟨zB_⟩⟩

mutual
def gd_cmp.l0 : Nat → List Int → Int → Option (List Int)
 | 0, _, _ => none
 | k + 1, x0, x3 => if x3 < (x0.length : Int) then (if 0 ≤ x3 then (if 0 ≤ (wrap64 (x3 - 1)) then (if (wrap64 (x3 - 1)) < (x0.length : Int) then (if (rd x0 x3) = (rd x0 (wrap64 (x3 - 1))) then (if x3 ≤ (x0.length : Int) then (gd_cmp.l1 k x0 x3 x3 1) else (none)) else (gd_cmp.l0 k x0 (wrap64 (x3 + 1)))) else (none)) else (none)) else (none)) else (some x0)
def gd_cmp.l1 : Nat → List Int → Int → Int → Int → Option (List Int)
 | 0, _, _, _, _ => none
 | k + 1, x0, x3, x4, x5 => if x5 < ((x0.drop x4.toNat).length : Int) then (if 0 ≤ x5 then (if 0 ≤ (wrap64 (x5 - 1)) then (if (wrap64 (x5 - 1)) < ((x0.drop x4.toNat).length : Int) then (if (rd (x0.drop x4.toNat) x5) = (rd (x0.drop x4.toNat) (wrap64 (x5 - 1))) then (gd_cmp.l1 k x0 x3 x4 (wrap64 (x5 + 1))) else (if 0 ≤ x3 then (if x3 < (x0.length : Int) then (gd_cmp.l1 k (x0.set (x3 : Int).toNat (rd (x0.drop x4.toNat) x5)) (wrap64 (x3 + 1)) x4 (wrap64 (x5 + 1))) else (none)) else (none))) else (none)) else (none)) else (none)) else (if 0 ≤ x3 then (if x3 < (x0.length : Int) then (some (x0.take (x3 : Int).toNat)) else (none)) else (none))
end
def gd_cmp.f (k : Nat) (l0 : List Int) : Option (List Int) := if (l0.length : Int) < 2 then (some l0) else (gd_cmp.l0 k l0 1)
theorem gd_cmp.mono_l : ∀ k, (∀ y0 y1, LeO (gd_cmp.l0 k y0 y1) (gd_cmp.l0 (k + 1) y0 y1)) ∧ (∀ y0 y1 y2 y3, LeO (gd_cmp.l1 k y0 y1 y2 y3) (gd_cmp.l1 (k + 1) y0 y1 y2 y3))
 | 0 => ⟨fun _ _ r h => by simp [gd_cmp.l0] at h, fun _ _ _ _ r h => by simp [gd_cmp.l1] at h⟩
 | k + 1 => by
  obtain ⟨ih0, ih1⟩ := gd_cmp.mono_l k
  refine ⟨?_, ?_⟩
  · intro y0 y1
    unfold gd_cmp.l0
    repeat' first
    | (with_reducible exact ih0 _ _)
    | (with_reducible exact ih1 _ _ _ _)
    | (with_reducible exact LeO.refl _)
    | (with_reducible exact LeO.none _)
    | (with_reducible refine LeO.ite ?_ ?_)
    | (with_reducible refine LeO.bind ?_ (fun _ => ?_))
    | exact LeO.none _
    | refine LeO.ite ?_ ?_
    | refine LeO.bind ?_ (fun _ => ?_)
  intro y0 y1 y2 y3
  unfold gd_cmp.l1
  repeat' first
  | (with_reducible exact ih0 _ _)
  | (with_reducible exact ih1 _ _ _ _)
  | (with_reducible exact LeO.refl _)
  | (with_reducible exact LeO.none _)
  | (with_reducible refine LeO.ite ?_ ?_)
  | (with_reducible refine LeO.bind ?_ (fun _ => ?_))
  | exact LeO.none _
  | refine LeO.ite ?_ ?_
  | refine LeO.bind ?_ (fun _ => ?_)
theorem gd_cmp.mono : ∀ a0 k, LeO (gd_cmp.f k a0) (gd_cmp.f (k + 1) a0) := by
 intro a0 k
 obtain ⟨ih0, ih1⟩ := gd_cmp.mono_l k
 unfold gd_cmp.f
 repeat' first
  | (with_reducible exact ih0 _ _)
  | (with_reducible exact ih1 _ _ _ _)
  | (with_reducible exact LeO.refl _)
  | (with_reducible exact LeO.none _)
  | (with_reducible refine LeO.ite ?_ ?_)
  | (with_reducible refine LeO.bind ?_ (fun _ => ?_))
  | exact LeO.none _
  | refine LeO.ite ?_ ?_
  | refine LeO.bind ?_ (fun _ => ?_)
set_option maxHeartbeats 8000000 in
set_option maxRecDepth 100000 in
theorem gd_cmp.calls (k : Nat) (P0_ : Nat → Prop) (u9000_ : Value) (l0 : List Int) (r : List Int) (w0 w : World) (hB : Below w0.heap.size w0 w) (ho0 : MR 5 w w0.heap.size P0_ u9000_ l0) (h : gd_cmp.f k l0 = some r) :
 Calls Tryz.prog 124 #[u9000_] w fun e w' => ∃ v0_ : Value, e = .returned (v0_) ∧ MR 5 w' w0.heap.size (fun k_ => (P0_ k_ ∨ w.heap.size ≤ k_)) v0_ r ∧ Below w0.heap.size w0 w' ∧ Kept w w' (fun k_ => P0_ k_) := by
 have HO0 := Aside0.mk (show MR 5 w w0.heap.size (fun k_ => (P0_ k_ ∨ w.heap.size ≤ k_)) u9000_ l0 from MR_mono ho0 (fun k_ hk => (.inl hk)))
 have HK := Aside0.mk (Kept.refl w (fun k_ => P0_ k_))
 have HW0 := Aside0.mk hB.size
 have HB := Aside0.mk hB
 clear hB
 unfold gd_cmp.f at h
 have H := h
 clear h
 by_cases c2 : (l0.length : Int) < 2
 · rw [if_pos c2] at H
   have c2b0 := decide_eq_true c2
   have c2b1 : decide (l0.length < 2) = true := decide_eq_true (by omega)
   clear c2
   obtain rfl := Option.some.inj H
   obtain ⟨Ao3, co3, eo3⟩ := MR_slice HO0.out
   subst eo3
   go_enter Tryz.func124, Tryz.ntmps124
   go_wp2
   repeat (go_quiet (fail); try go_wp2)
   go_ret
   exact ⟨_, by first | rfl | (simp [errW_none, errW_some] <;> rfl) | (simp [*, errW_none, errW_some] <;> rfl), by (with_reducible repeat (first | apply MR_alloc | apply MR_drewN | apply MR_drew)); exact HO0.out, by repeat (first | (with_reducible first | exact HB.out | apply below_alloc | apply pw_below_drewN | apply below_drew1) | exact HB.out), by repeat (first | (with_reducible first | exact HK.out | apply Kept.alloc | apply Kept.drewN | apply Kept.drew) | exact HK.out)⟩
 rw [if_neg c2] at H
 have c2b0 := decide_eq_false c2
 have c2b1 : decide (l0.length < 2) = false := decide_eq_false (by omega)
 clear c2
 have H' := Aside0.mk H
 clear H
 obtain ⟨go4, co4, eo4, gb4, gl4, cl4, HG4⟩ := MR_form HO0.out (by have := of_decide_eq_false c2b1; omega)
 have GB4 := Aside0.mk gb4
 clear gb4 gl4 HG4
 subst eo4
 go_enter Tryz.func124, Tryz.ntmps124
 go_wp2
 repeat (go_quiet (fail); try go_wp2)
 go_loopg [3] k (fun kq v3 w' => ∃ (x0_1 : List Int) (x3_1 : Int), v3 = .int .i64 x3_1 ∧ Aside0 (gd_cmp.l0 kq x0_1 x3_1 = some r) ∧ Aside0 (kq ≤ k) ∧ Aside0 (MR 5 w' w0.heap.size (fun k_ => (P0_ k_ ∨ w.heap.size ≤ k_)) (.slice (some ⟨go4, 0, none⟩) l0.length co4) x0_1) ∧ Aside0 (Kept w w' (fun k_ => P0_ k_)) ∧ Aside0 (Below w0.heap.size w0 w'))
 case atStart => exact ⟨(l0), (1), zdb1_, H', ⟨Nat.le_refl _⟩, ⟨by (with_reducible repeat (first | apply MR_alloc | apply MR_drewN | apply MR_drew)); exact HO0.out⟩, ⟨by repeat (first | (with_reducible first | exact HK.out | apply Kept.alloc | apply Kept.drewN | apply Kept.drew) | exact HK.out)⟩, ⟨zB_⟩⟩
 case round =>
  clear H'
  obtain ⟨x0_1, x3_1, rfl, HA, HK1, HO_0, HK, HB⟩ := hrel
  have hl0_1 := (MR_reads' HO_0.out).1
  rw [hl0_1] at HO_0
  (try simp only [hl0_1])
  cases gk with
  | zero => exact absurd HA.out (by simp [gd_cmp.l0])
  | succ k1 =>
   have H := HA.out
   clear HA
   simp only [gd_cmp.l0] at H
   by_cases c5 : x3_1 < (x0_1.length : Int)
   rotate_left
   · rw [if_neg c5] at H
     have c5b0 := decide_eq_false c5
     clear c5
     obtain rfl := Option.some.inj H
     go_wp2
     repeat (go_quiet (fail); try go_wp2)
     go_ret
     exact ⟨_, by first | rfl | (simp [errW_none, errW_some] <;> rfl) | (simp [*, errW_none, errW_some] <;> rfl), by (with_reducible repeat (first | apply MR_alloc | apply MR_drewN | apply MR_drew)); exact HO_0.out, by repeat (first | (with_reducible first | exact HB.out | apply below_alloc | apply pw_below_drewN | apply below_drew1) | exact HB.out), by repeat (first | (with_reducible first | exact HK.out | apply Kept.alloc | apply Kept.drewN | apply Kept.drew) | exact HK.out)⟩
   rw [if_pos c5] at H
   have c5b0 := decide_eq_true c5
   clear c5
   replace H := gd_ H; obtain ⟨c6, H⟩ := H
   have c6b0 : decide (0 ≤ x3_1) = true := decide_eq_true c6
   clear c6
   obtain ⟨ji7, hji7⟩ : ∃ j_ : Int, (wrap64 (x3_1 - 1)) = j_ := ⟨_, rfl⟩
   replace H : (if 0 ≤ (ji7) then (if (ji7) < (x0_1.length : Int) then (if (rd x0_1 x3_1) = (rd x0_1 (ji7)) then (if x3_1 ≤ (x0_1.length : Int) then (gd_cmp.l1 k1 x0_1 x3_1 x3_1 1) else (none)) else (gd_cmp.l0 k1 x0_1 (wrap64 (x3_1 + 1)))) else (none)) else (none)) = some r := by first | (rw [hji7] at H; exact H) | (simp only [hji7] at H ⊢; exact H)
   have hji7w : (IntKind.i64.wrap (x3_1 - 1)) = ji7 := (i64_w _).trans hji7
   replace H := gd_ H; obtain ⟨c8, H⟩ := H
   have c8b0 : decide (0 ≤ (ji7)) = true := decide_eq_true c8
   clear c8
   replace H := gd_ H; obtain ⟨c9, H⟩ := H
   have c9b0 : decide ((ji7) < (x0_1.length : Int)) = true := decide_eq_true c9
   clear c9
   by_cases c10 : (rd x0_1 x3_1) = (rd x0_1 (ji7))
   · obtain ⟨H, c10b0, c10b1⟩ := ep_ c10 H
     clear c10
     have c11b0 := eq_true (of_decide_eq_true zdb0_ : 0 ≤ x3_1)
     replace H := gd_ H; obtain ⟨c12, H⟩ := H
     have c12b0 := eq_true c12
     have c12b1 : decide (x3_1 ≤ (x0_1.length : Int)) = true := decide_eq_true c12
     clear c12
     obtain ⟨y267, hy267⟩ : ∃ y_ : List Int, y_ = (x0_1.drop (x3_1 : Int).toNat) := ⟨_, rfl⟩
     replace H : (gd_cmp.l1 k1 x0_1 x3_1 x3_1 1) = some r := by first | (rw [hy267]; with_reducible exact H) | (have H2_ := (Option.bind_some _ _).symm.trans H; rw [hy267]; with_reducible exact H2_) | (have H2_ := (Option.bind_some _ _).symm.trans H; with_reducible exact H2_) | with_reducible exact H | (rw [hy267]; exact H) | exact H
     have Ny267 := Aside0.mk hy267
     clear hy267
     have H' := Aside0.mk H
     clear H
     have p265 : 0 ≤ (x3_1 : Int) := of_decide_eq_true zdb0_
     have q265 : x3_1 < (x0_1.length : Int) := of_decide_eq_true zdb0_
     obtain ⟨ad265, e265, hx265_0⟩ := Kd.at_int (MR_reads' HO_0.out).2.2 x3_1 p265 q265
     cases e265
     replace p265 := eq_true p265
     replace q265 := eq_true q265
     have p266 : 0 ≤ ((ji7) : Int) := of_decide_eq_true zdb0_
     have q266 : (ji7) < (x0_1.length : Int) := of_decide_eq_true zdb0_
     obtain ⟨ad266, e266, hx266_0⟩ := Kd.at_int (MR_reads' HO_0.out).2.2 (ji7) p266 q266
     cases e266; simp only [add_plain] at hx265_0 hx266_0
     replace p266 := eq_true p266
     replace q266 := eq_true q266
     have q13 : (x3_1 : Int) ≤ ((x0_1.length : Int) : Int) := of_decide_eq_true zdb0_
     obtain ⟨i013, hi013, _, hsz13, _⟩ := info_parts info5
     have hroom13 : x0_1.length ≤ co4 := (MR_reads' HO_0.out).2.1
     have hC13 : Kd.C (Kd.int .u8) _ (some ⟨go4, 0, none⟩) x0_1.length x0_1 := (MR_reads' HO_0.out).2.2
     have q013 : (0 : Int) ≤ (x3_1 : Int) := of_decide_eq_true zdb0_
     have hcut13 := cut_from (P := Tryz.prog) 22 5 .i64 Tryz.underlying22 hi013 1 hsz13 (some ⟨go4, 0, none⟩) x0_1.length co4 x3_1 q013 q13
     have hr13 := Kd.C_drop (m := (x3_1 : Int).toNat) (c := co4) hC13 (by omega) hroom13
     obtain ⟨A13, hA13⟩ : ∃ A1, A1 = (if co4 = (x3_1 : Int).toNat then (some ⟨go4, 0, none⟩) else ((some ⟨go4, 0, none⟩) : Option Addr).map (·.add ((x3_1 : Int).toNat * 1))) := ⟨_, rfl⟩
     obtain ⟨c13, hc13⟩ : ∃ c1, c1 = co4 - (x3_1 : Int).toNat := ⟨_, rfl⟩
     have hy13 : y267.length = x0_1.length - (x3_1 : Int).toNat := (by rw [Ny267.out, List.length_drop] <;> omega)
     rw [show (x0_1).drop (x3_1 : Int).toNat = y267 from Ny267.out.symm] at hr13
     replace hr13 : Kd.C (Kd.int .u8) _ A13 y267.length y267 := (by rw [hA13]; exact hr13)
     rw [← hy13, ← hA13, ← hc13] at hcut13
     have HR270 := Aside0.mk hr13
     have HC270 := Aside0.mk (show y267.length ≤ c13 from by rw [hy13, hc13]; exact Nat.sub_le_sub_right hroom13 _)
     clear hr13 hC13 hroom13 hi013 hsz13 hc13
     have KY13 := Aside0.mk hy13
     have KA13 := Aside0.mk hA13
     clear hy13 hA13
     have KL13 := Aside0.mk (show (x3_1 : Int).toNat ≤ x0_1.length from by omega)
     replace q13 := eq_true q13
     go_wp2
     repeat (go_quiet (fail); try go_wp2)
     go_loopg [3, 5] k1 (fun kq v3 v5 w' => ∃ (x0_2 : List Int) (x3_2 : Int) (x5_2 : Int), v3 = .int .i64 x3_2 ∧ v5 = .int .i64 x5_2 ∧ Aside0 (gd_cmp.l1 kq x0_2 x3_2 x3_1 x5_2 = some r) ∧ Aside0 (kq ≤ k1) ∧ Aside0 (MR 5 w' w0.heap.size (fun k_ => (P0_ k_ ∨ w.heap.size ≤ k_)) (.slice (some ⟨go4, 0, none⟩) x0_1.length co4) x0_2) ∧ Aside0 (Kept w w' (fun k_ => P0_ k_)) ∧ Aside0 (Below w0.heap.size w0 w'))
     case atStart => exact ⟨(x0_1), (x3_1), (1), zdb1_, zdb1_, H', ⟨Nat.le_refl _⟩, ⟨by (try simp only [hl0_1]); (with_reducible repeat (first | apply MR_alloc | apply MR_drewN | apply MR_drew)); exact HO_0.out⟩, ⟨by repeat (first | (with_reducible first | exact HK.out | apply Kept.alloc | apply Kept.drewN | apply Kept.drew) | exact HK.out)⟩, ⟨zB_⟩⟩
     case round =>
      clear H'
      obtain ⟨x0_2, x3_2, x5_2, rfl, rfl, HA, HK2, HO_0, HK, HB⟩ := hrel
      have hl0_2 := (MR_reads' HO_0.out).1
      rw [hl0_2] at HO_0
      (try simp only [hl0_2])
      cases gk with
      | zero => exact absurd HA.out (by simp [gd_cmp.l1])
      | succ k2 =>
       have H := HA.out
       clear HA
       simp only [gd_cmp.l1] at H
       obtain ⟨z267, hz267⟩ : ∃ z_ : List Int, z_ = x0_2.drop x3_1.toNat := ⟨_, rfl⟩
       rw [← hz267] at H
       have hle267 : x3_1.toNat ≤ x0_2.length := by have := KL13.out; omega
       have hzl : z267.length = y267.length := by rw [hz267, List.length_drop, KY13.out, hl0_2]
       simp only [hzl] at H
       have HRz : Aside0 (Kd.C (Kd.int .u8) _ A13 y267.length z267) := ⟨by have hC := (MR_reads' HO_0.out).2.2; have hr := Kd.C_drop (m := x3_1.toNat) (c := co4) hC hle267 (MR_reads' HO_0.out).2.1; rw [← hz267, hzl] at hr; rw [KA13.out]; exact hr⟩
       clear hz267 hle267
       by_cases c14 : x5_2 < (y267.length : Int)
       · rw [if_pos c14] at H
         have c14b0 := decide_eq_true c14
         clear c14
         replace H := gd_ H; obtain ⟨c15, H⟩ := H
         have c15b0 : decide (0 ≤ x5_2) = true := decide_eq_true c15
         clear c15
         obtain ⟨ji16, hji16⟩ : ∃ j_ : Int, (wrap64 (x5_2 - 1)) = j_ := ⟨_, rfl⟩
         replace H : (if 0 ≤ (ji16) then (if (ji16) < (y267.length : Int) then (if (rd z267 x5_2) = (rd z267 (ji16)) then (gd_cmp.l1 k2 x0_2 x3_2 x3_1 (wrap64 (x5_2 + 1))) else (if 0 ≤ x3_2 then (if x3_2 < (x0_2.length : Int) then (gd_cmp.l1 k2 (x0_2.set (x3_2 : Int).toNat (rd z267 x5_2)) (wrap64 (x3_2 + 1)) x3_1 (wrap64 (x5_2 + 1))) else (none)) else (none))) else (none)) else (none)) = some r := by first | (rw [hji16] at H; exact H) | (simp only [hji16] at H ⊢; exact H)
         have hji16w : (IntKind.i64.wrap (x5_2 - 1)) = ji16 := (i64_w _).trans hji16
         replace H := gd_ H; obtain ⟨c17, H⟩ := H
         have c17b0 : decide (0 ≤ (ji16)) = true := decide_eq_true c17
         clear c17
         replace H := gd_ H; obtain ⟨c18, H⟩ := H
         have c18b0 : decide ((ji16) < (y267.length : Int)) = true := decide_eq_true c18
         clear c18
         by_cases c19 : (rd z267 x5_2) = (rd z267 (ji16))
         · obtain ⟨H, c19b0, c19b1⟩ := ep_ c19 H
           clear c19
           have H' := Aside0.mk H
           clear H
           have p271 : 0 ≤ (x5_2 : Int) := of_decide_eq_true zdb0_
           have q271 : x5_2 < (y267.length : Int) := of_decide_eq_true zdb0_
           obtain ⟨ad271, e271, hx271_0⟩ := Kd.at_int HRz.out x5_2 p271 q271
           cases e271
           replace p271 := eq_true p271
           replace q271 := eq_true q271
           have p272 : 0 ≤ ((ji16) : Int) := of_decide_eq_true zdb0_
           have q272 : (ji16) < (y267.length : Int) := of_decide_eq_true zdb0_
           obtain ⟨ad272, e272, hx272_0⟩ := Kd.at_int HRz.out (ji16) p272 q272
           obtain rfl : ad271 = ad272 := (by injection e272)
           replace p272 := eq_true p272
           replace q272 := eq_true q272
           go_wp2
           repeat (go_quiet (fail); try go_wp2)
           (try simp only [← hl0_2])
           go_roundg k2
           case measure => have := HK1.out; have := HK2.out; omega
           case rel => exact ⟨(x0_2), (x3_2), (wrap64 (x5_2 + 1)), zdb1_, zdb1_, H', ⟨by have := HK1.out; have := HK2.out; omega⟩, ⟨by (try simp only [hl0_1]); (try simp only [hl0_2]); (with_reducible repeat (first | apply MR_alloc | apply MR_drewN | apply MR_drew)); exact HO_0.out⟩, ⟨by repeat (first | (with_reducible first | exact HK.out | apply Kept.alloc | apply Kept.drewN | apply Kept.drew) | exact HK.out)⟩, ⟨zB_⟩⟩
         obtain ⟨H, c19b0, c19b1⟩ := en_ c19 H
         replace H := gd_ H; obtain ⟨c20, H⟩ := H
         have c20b0 : decide (0 ≤ x3_2) = true := decide_eq_true c20
         clear c20
         replace H := gd_ H; obtain ⟨c21, H⟩ := H
         have c21b0 : decide (x3_2 < (x0_2.length : Int)) = true := decide_eq_true c21
         clear c21
         obtain ⟨y274, hy274⟩ : ∃ y_ : List Int, y_ = (x0_2.set (x3_2 : Int).toNat (rd z267 x5_2)) := ⟨_, rfl⟩
         replace H : (gd_cmp.l1 k2 y274 (wrap64 (x3_2 + 1)) x3_1 (wrap64 (x5_2 + 1))) = some r := by first | (rw [hy274]; with_reducible exact H) | (have H2_ := (Option.bind_some _ _).symm.trans H; rw [hy274]; with_reducible exact H2_) | (have H2_ := (Option.bind_some _ _).symm.trans H; with_reducible exact H2_) | with_reducible exact H | (rw [hy274]; exact H) | exact H
         have Ny274 := Aside0.mk hy274
         clear hy274
         have H' := Aside0.mk H
         clear H
         have p271 : 0 ≤ (x5_2 : Int) := of_decide_eq_true zdb0_
         have q271 : x5_2 < (y267.length : Int) := of_decide_eq_true zdb0_
         obtain ⟨ad271, e271, hx271_0⟩ := Kd.at_int HRz.out x5_2 p271 q271
         cases e271
         replace p271 := eq_true p271
         replace q271 := eq_true q271
         have p272 : 0 ≤ ((ji16) : Int) := of_decide_eq_true zdb0_
         have q272 : (ji16) < (y267.length : Int) := of_decide_eq_true zdb0_
         obtain ⟨ad272, e272, hx272_0⟩ := Kd.at_int HRz.out (ji16) p272 q272
         obtain rfl : ad271 = ad272 := (by injection e272)
         replace p272 := eq_true p272
         replace q272 := eq_true q272
         have p273 : 0 ≤ (x5_2 : Int) := of_decide_eq_true zdb0_
         have q273 : x5_2 < (y267.length : Int) := of_decide_eq_true zdb0_
         obtain ⟨ad273, e273, hx273_0⟩ := Kd.at_int HRz.out x5_2 p273 q273
         obtain rfl : ad271 = ad273 := (by injection e273)
         replace p273 := eq_true p273
         replace q273 := eq_true q273
         have p22 : 0 ≤ (x3_2 : Int) := of_decide_eq_true zdb0_
         have q22 : (x3_2 : Int) < ((x0_2.length : Int) : Int) := of_decide_eq_true zdb0_
         have HMgo4 := Aside0.mk (show (P0_ go4 ∨ w.heap.size ≤ go4) from (HO_0.out.1 _ rfl))
         (first | simp only [add_plain] at hx265_0 | skip)
         (first | simp only [add_plain] at hx266_0 | skip)
         obtain ⟨hx22_0, hf22_0⟩ := MR_celln 0 HO_0.out (x3_2 : Int) p22 q22
         replace p22 := eq_true p22
         replace q22 := eq_true q22
         go_wp2
         repeat (go_quiet (fail); try go_wp2)
         (try simp only [← hl0_2])
         go_roundg k2
         case measure => have := HK1.out; have := HK2.out; omega
         case rel => exact ⟨(y274), (wrap64 (x3_2 + 1)), (wrap64 (x5_2 + 1)), zdb1_, zdb1_, H', ⟨by have := HK1.out; have := HK2.out; omega⟩, ⟨by (try simp only [hl0_1]); (try simp only [hl0_2]); rw [Ny274.out]; exact (MR_putg (MR_drewN HO_0.out _) _ _).1⟩, ⟨Kept.of_grown (S := (fun k_ => P0_ k_)) (MR_putg (MR_drewN HO_0.out _) (x3_2 : Int) (rd z267 x5_2)).2 (Kept.drewN HK.out _) (fun k_ e_ => (HO_0.out.1 k_ e_))⟩, ⟨below_set (pw_below_drewN HB.out _) GB4.out⟩⟩
       rw [if_neg c14] at H
       have c14b0 := decide_eq_false c14
       clear c14
       replace H := gd_ H; obtain ⟨c25, H⟩ := H
       have c25b0 := eq_true c25
       have c25b1 : decide (0 ≤ x3_2) = true := decide_eq_true c25
       clear c25
       replace H := gd_ H; obtain ⟨c26, H⟩ := H
       have c26c := c26
       have c26b1 : decide (x3_2 ≤ (x0_2.length : Int)) = true := decide_eq_true (Int.le_of_lt c26)
       clear c26
       obtain ⟨y275, hy275⟩ : ∃ y_ : List Int, y_ = (x0_2.drop (x3_2 : Int).toNat) := ⟨_, rfl⟩
       replace H : (some (x0_2.take (x3_2 : Int).toNat)) = some r := by first | (rw [hy275]; with_reducible exact H) | (have H2_ := (Option.bind_some _ _).symm.trans H; rw [hy275]; with_reducible exact H2_) | (have H2_ := (Option.bind_some _ _).symm.trans H; with_reducible exact H2_) | with_reducible exact H | (rw [hy275]; exact H) | exact H
       have Ny275 := Aside0.mk hy275
       clear hy275
       have c27b0 := eq_true (Int.le_of_lt c26c : x3_2 ≤ (x0_2.length : Int))
       obtain ⟨y279, hy279⟩ : ∃ y_ : List Int, y_ = (x0_2.take (x3_2 : Int).toNat) := ⟨_, rfl⟩
       replace H : (some y279) = some r := by first | (rw [hy279]; with_reducible exact H) | (have H2_ := (Option.bind_some _ _).symm.trans H; rw [hy279]; with_reducible exact H2_) | (have H2_ := (Option.bind_some _ _).symm.trans H; with_reducible exact H2_) | with_reducible exact H | (rw [hy279]; exact H) | exact H
       have Ny279 := Aside0.mk hy279
       clear hy279
       obtain rfl := Option.some.inj H
       have q28 : (x3_2 : Int) ≤ ((x0_2.length : Int) : Int) := of_decide_eq_true zdb0_
       obtain ⟨i028, hi028, _, hsz28, _⟩ := info_parts info5
       have hroom28 : x0_2.length ≤ co4 := (MR_reads' HO_0.out).2.1
       have hC28 : Kd.C (Kd.int .u8) _ (some ⟨go4, 0, none⟩) x0_2.length x0_2 := (MR_reads' HO_0.out).2.2
       have q028 : (0 : Int) ≤ (x3_2 : Int) := of_decide_eq_true zdb0_
       have hcut28 := cut_from (P := Tryz.prog) 22 5 .i64 Tryz.underlying22 hi028 1 hsz28 (some ⟨go4, 0, none⟩) x0_2.length co4 x3_2 q028 q28
       have hr28 := Kd.C_drop (m := (x3_2 : Int).toNat) (c := co4) hC28 (by omega) hroom28
       obtain ⟨A28, hA28⟩ : ∃ A1, A1 = (if co4 = (x3_2 : Int).toNat then (some ⟨go4, 0, none⟩) else ((some ⟨go4, 0, none⟩) : Option Addr).map (·.add ((x3_2 : Int).toNat * 1))) := ⟨_, rfl⟩
       obtain ⟨c28, hc28⟩ : ∃ c1, c1 = co4 - (x3_2 : Int).toNat := ⟨_, rfl⟩
       have hy28 : y275.length = x0_2.length - (x3_2 : Int).toNat := (by rw [Ny275.out, List.length_drop] <;> omega)
       rw [show (x0_2).drop (x3_2 : Int).toNat = y275 from Ny275.out.symm] at hr28
       replace hr28 : Kd.C (Kd.int .u8) _ A28 y275.length y275 := (by rw [hA28]; exact hr28)
       rw [← hy28, ← hA28, ← hc28] at hcut28
       have HR278 := Aside0.mk hr28
       have HC278 := Aside0.mk (show y275.length ≤ c28 from by rw [hy28, hc28]; exact Nat.sub_le_sub_right hroom28 _)
       clear hr28 hC28 hroom28 hi028 hsz28 hc28
       have KY28 := Aside0.mk hy28
       have KA28 := Aside0.mk hA28
       clear hy28 hA28
       have KL28 := Aside0.mk (show (x3_2 : Int).toNat ≤ x0_2.length from by omega)
       replace q28 := eq_true q28
       have q29 : (x3_2 : Int) ≤ ((x0_2.length : Int) : Int) := of_decide_eq_true zdb0_
       obtain ⟨i029, hi029, _, hsz29, _⟩ := info_parts info5
       have hcut29 := cut_to (P := Tryz.prog) 22 5 .i64 Tryz.underlying22 hi029 (some ⟨go4, 0, none⟩) x0_2.length co4 x3_2 (of_decide_eq_true zdb0_) q29 (MR_reads' HO_0.out).2.1
       have hr29 := MR_take (m := (x3_2 : Int).toNat) HO_0.out (by omega)
       have hy29 : y279.length = (x3_2 : Int).toNat := (by rw [Ny279.out, List.length_take]; omega)
       rw [← Ny279.out] at hr29
       rw [← hy29] at hr29 hcut29
       have HCAP := Aside0.mk (MR_reads' HO_0.out).2.1
       clear hy29 hi029 hsz29 HO_0
       have HO281 := Aside0.mk hr29
       clear hr29
       replace q29 := eq_true q29
       have hroom30 : x0_2.length ≤ co4 := HCAP.out
       have hA30 : A28 = some ⟨go4, x3_2.toNat, none⟩ := by rw [KA28.out, if_neg (by omega)]; simp [add_plain]
       have hoff30 : x3_2.toNat = y279.length := by rw [Ny279.out, List.length_take]; omega
       have hfit30 : x3_2.toNat + y275.length ≤ co4 := by rw [KY28.out]; omega
       have hr30 := HO281.out
       rw [← hoff30] at hr30
       have HCLR := Aside0.mk (MR_clear (P := Tryz.prog) wr 22 5 0 (n := y275.length) (c := c28) Tryz.underlying22 (fun _ => by kernel_rfl) hr30 hfit30)
       have HZ30 := Aside0.mk (MR_zeros y275.length x3_2.toNat wr hr30 (Nat.le_refl _))
       have HO30 := Aside0.mk hoff30
       clear hfit30 hoff30 hroom30 hr30 HO281
       subst hA30
       go_wp2
       rw [HCLR.out]
       generalize wr.setCells go4 x3_2.toNat (List.replicate y275.length (.int .u8 0)) = w31 at HZ30 ⊢
       have n0_ := HZ30.out.1
       rw [HO30.out] at n0_
       have HO281 := Aside0.mk n0_
       have n1_ := Aside0.mk (Below.grown HB.out HZ30.out.2 (by have := HW0.out; have := HB.out.size; omega) (fun k_ e_ => by injection e_ with e_; subst e_; exact GB4.out))
       have n2_ := Aside0.mk (Kept.of_grown (S := (fun k_ => P0_ k_)) HZ30.out.2 HK.out (fun k_ e_ => (HO281.out.1 k_ e_)))
       clear HB HK HCLR HZ30
       have HB := n1_
       have HK := n2_
       clear n0_ n1_ n2_
       go_wp2
       go_ret
       exact ⟨_, by first | rfl | (simp [errW_none, errW_some] <;> rfl) | (simp only [← hji7]; first | rfl | (simp [errW_none, errW_some] <;> rfl)) | (simp [*, errW_none, errW_some] <;> rfl), by (with_reducible repeat (first | apply MR_alloc | apply MR_drewN | apply MR_drew)); exact HO281.out, by repeat (first | (with_reducible first | exact HB.out | apply below_alloc | apply pw_below_drewN | apply below_drew1) | exact HB.out), by repeat (first | (with_reducible first | exact HK.out | apply Kept.alloc | apply Kept.drewN | apply Kept.drew) | exact HK.out)⟩
   obtain ⟨H, c10b0, c10b1⟩ := en_ c10 H
   have H' := Aside0.mk H
   clear H
   have p265 : 0 ≤ (x3_1 : Int) := of_decide_eq_true zdb0_
   have q265 : x3_1 < (x0_1.length : Int) := of_decide_eq_true zdb0_
   obtain ⟨ad265, e265, hx265_0⟩ := Kd.at_int (MR_reads' HO_0.out).2.2 x3_1 p265 q265
   cases e265
   replace p265 := eq_true p265
   replace q265 := eq_true q265
   have p266 : 0 ≤ ((ji7) : Int) := of_decide_eq_true zdb0_
   have q266 : (ji7) < (x0_1.length : Int) := of_decide_eq_true zdb0_
   obtain ⟨ad266, e266, hx266_0⟩ := Kd.at_int (MR_reads' HO_0.out).2.2 (ji7) p266 q266
   cases e266; simp only [add_plain] at hx265_0 hx266_0
   replace p266 := eq_true p266
   replace q266 := eq_true q266
   go_wp2
   repeat (go_quiet (fail); try go_wp2)
   (try simp only [← hl0_1])
   go_roundg k1
   case measure => have := HK1.out; omega
   case rel => exact ⟨(x0_1), (wrap64 (x3_1 + 1)), zdb1_, H', ⟨by have := HK1.out; omega⟩, ⟨by (try simp only [hl0_1]); (with_reducible repeat (first | apply MR_alloc | apply MR_drewN | apply MR_drew)); exact HO_0.out⟩, ⟨by repeat (first | (with_reducible first | exact HK.out | apply Kept.alloc | apply Kept.drewN | apply Kept.drew) | exact HK.out)⟩, ⟨zB_⟩⟩

-- DIFF
set_option maxHeartbeats 8000000 in
set_option maxRecDepth 100000 in
theorem gd_pdq (k : Nat) (P0_ : Nat → Prop) (A : Option Addr) (c : Nat) (l r : List Int) (lim : Int) (w0 w : World) (hB : Below w0.heap.size w0 w) (ho0 : MR 5 w w0.heap.size P0_ (.slice A l.length c) l) (hl : l.length ≤ 12) (h : gd_ins.f k l 0 (l.length : Int) = some r) :
 Calls Tryz.prog 140 #[.slice A l.length c, .int .i64 0, .int .i64 (l.length : Int), .int .i64 lim] w fun e w' => e = .returned (.tuple #[]) ∧ MR 5 w' w0.heap.size (fun k_ => (P0_ k_ ∨ w.heap.size ≤ k_)) (.slice A l.length c) r ∧ Below w0.heap.size w0 w' ∧ Kept w w' (fun k_ => P0_ k_) := by
 have HB := Aside0.mk hB
 have HO := Aside0.mk ho0
 have H := Aside0.mk h
 have c1 : decide ((l.length : Int) ≤ 12) = true := decide_eq_true (by omega)
 have c2 : decide (l.length ≤ 12) = true := decide_eq_true hl
 have hs : wrap64 ((l.length : Int) - 0) = (l.length : Int) := by simp [wrap64]; omega
 have hs' : IntKind.i64.wrap ((l.length : Int) - 0) = (l.length : Int) := by rw [i64_w]; exact hs
 have hs0 : wrap64 (l.length : Int) = (l.length : Int) := by simp [wrap64]; omega
 obtain ⟨n, hn⟩ : ∃ n : Int, n = (l.length : Int) := ⟨_, rfl⟩
 clear hB ho0 h
 rw [← hn] at H hs hs' hs0 c1 ⊢
 have HN := Aside0.mk hn
 clear hn
 go_enter Tryz.func140, Tryz.ntmps140
 go_wp2
 go_loopg [1, 2] 1 (fun kq v1 v2 w' => v1 = .int .i64 0 ∧ v2 = .int .i64 n ∧ Aside0 (w' = w))
 case atStart => exact ⟨rfl, rfl, ⟨rfl⟩⟩
 case round =>
  obtain ⟨rfl, rfl, HE⟩ := hrel
  obtain rfl := HE.out
  go_wp2_with (first | (go_at_call 157; (with_reducible refine (gd_ins.calls k P0_ _ l 0 n r w0 wr HB.out HO.out H.out).mono ?_); rintro e w1 ⟨rfl, ho, hb, hk⟩; have HO1 := Aside0.mk ho; have HB1 := Aside0.mk hb; have HK1 := Aside0.mk hk; clear ho hb hk))
  (first | go_end0 | ((try simp only [Exit.inBlock, Exit.then]); refine bodyPost_ret (results_none rfl _ _ _) rfl ?_))
  exact ⟨rfl, HO1.out, HB1.out, HK1.out⟩
set_option maxHeartbeats 8000000 in
set_option maxRecDepth 100000 in
theorem gd_len (n : Nat) (hn : n ≤ 12) (w : World) :
 Calls Tryz.prog 141 #[.int .u64 (n : Int)] w fun e w' => e = .returned (.int .i64 (Lib.bitLen n)) ∧ w' = w := by
 have HN := Aside0.mk hn
 clear hn
 go_enter Tryz.func141, Tryz.ntmps141
 go_wp2_with (first | (go_at_call 167; (with_reducible refine (Shelf.Len64 (n : Int) w (by omega) (by have := HN.out; omega)).mono ?_); rintro e w' ⟨rfl, rfl⟩))
 go_ret
 exact ⟨rfl, rfl⟩
set_option maxHeartbeats 8000000 in
set_option maxRecDepth 100000 in
theorem gd_sort (k : Nat) (P0_ : Nat → Prop) (A : Option Addr) (c : Nat) (l r : List Int) (w0 w : World) (hB : Below w0.heap.size w0 w) (ho0 : MR 5 w w0.heap.size P0_ (.slice A l.length c) l) (hl : l.length ≤ 12) (h : gd_ins.f k l 0 (l.length : Int) = some r) :
 Calls Tryz.prog 123 #[.slice A l.length c] w fun e w' => e = .returned (.tuple #[]) ∧ MR 5 w' w0.heap.size (fun k_ => (P0_ k_ ∨ w.heap.size ≤ k_)) (.slice A l.length c) r ∧ Below w0.heap.size w0 w' ∧ Kept w w' (fun k_ => P0_ k_) := by
 have HB := Aside0.mk hB
 have HO := Aside0.mk ho0
 have H := Aside0.mk h
 have HL := Aside0.mk hl
 have hcv : (l.length : Int) % 18446744073709551616 = (l.length : Int) := by omega
 clear hB ho0 h hl
 go_enter Tryz.func123, Tryz.ntmps123
 go_wp2_with (first | (go_at_call 141; (with_reducible refine (gd_len l.length HL.out _).mono ?_); rintro e w' ⟨rfl, rfl⟩) | (go_at_call 140; (with_reducible refine (gd_pdq k P0_ A c l r _ w0 _ HB.out HO.out HL.out H.out).mono ?_); rintro e w1 ⟨rfl, ho, hb, hk⟩; have HO1 := Aside0.mk ho; have HB1 := Aside0.mk hb; have HK1 := Aside0.mk hk; clear ho hb hk))
 (first | go_end0 | ((try simp only [Exit.inBlock, Exit.then]); refine bodyPost_ret (results_none rfl _ _ _) rfl ?_))
 exact ⟨rfl, HO1.out, HB1.out, HK1.out⟩

def impl_differs.f (k : Nat) (a0 : ByteArray) : Option Int := if a0.size ≤ 12 then (gd_ins.f k (bytesOf a0) 0 (a0.size : Int)).bind fun l => (gd_cmp.f k l).bind fun r => some (r.length : Int) else none
theorem impl_differs.mono : ∀ a0 k, LeO (impl_differs.f k a0) (impl_differs.f (k + 1) a0) := by
 intro a0 k
 unfold impl_differs.f
 refine LeO.ite ?_ (LeO.refl _)
 refine LeO.bind (gd_ins.mono _ _ _ _) (fun _ => ?_)
 exact LeO.bind (gd_cmp.mono _ _) (fun _ => LeO.refl _)
set_option maxHeartbeats 8000000 in
set_option maxRecDepth 100000 in
theorem impl_differs.calls (k : Nat) (a0 : ByteArray) (r : Int) (w : World) (h : impl_differs.f k a0 = some r) :
 Calls Tryz.prog 103 #[.string a0] w fun e w' => e = .returned (.int .i64 r) ∧ Below w.heap.size w w' := by
 unfold impl_differs.f at h
 by_cases c : a0.size ≤ 12
 rotate_left
 · exact none_ (if_neg c) h
 rw [if_pos c] at h
 obtain ⟨l, hl, h⟩ := Option.bind_eq_some_iff.mp h
 obtain ⟨x, hx, h⟩ := Option.bind_eq_some_iff.mp h
 obtain rfl := Option.some.inj h
 have hn : (bytesOf a0).length = a0.size := (bytes_reads w 5 a0 (by omega)).1
 have hg := grown_le w a0.size 5 (by omega)
 have hm := MR_conv w 5 a0 (by omega) w.heap.size (Nat.le_refl _) hg.2 hg.1
 rw [← hn] at hl hm
 have HB := Aside0.mk (bytes_below (Below.refl w.heap.size w) (Nat.le_refl _) 5 a0)
 have HI := Aside0.mk hl
 have HX := Aside0.mk hx
 have HL := Aside0.mk (show (bytesOf a0).length ≤ 12 by omega)
 have hcv := Lib.run_convert_string_bytes (P := Tryz.prog) w 9 22 5 a0 (u := .string) Tryz.underlying9 Tryz.underlying22 Tryz.underlying5
 rw [← hn] at hcv
 generalize Lib.bytesWorld w 5 a0 = w1 at hm HB hcv
 generalize grownCap w (bytesOf a0).length 0 5 = cap at hm hcv
 generalize bytesOf a0 = bs at hm HI HL hcv
 have HO := Aside0.mk hm
 clear hm hg hn hl hx c h
 go_enter Tryz.func103, Tryz.ntmps103
 go_wp2_with (first | (go_at_call 123; (with_reducible refine (gd_sort k _ _ cap bs l w w1 HB.out HO.out HL.out HI.out).mono ?_); rintro e w2 ⟨rfl, ho, hb, hk⟩; have hln := (MR_reads' ho).1; rw [hln] at ho ⊢; have HO1 := Aside0.mk ho; have HB1 := Aside0.mk hb; clear ho hb hk hln) | (go_at_call 124; (with_reducible refine (gd_cmp.calls k _ _ l x w w2 HB1.out HO1.out HX.out).mono ?_); rintro e w3 ⟨v, rfl, ho, hb, hk⟩; have HB2 := Aside0.mk hb; obtain ⟨A3, c3, rfl⟩ := MR_slice ho; clear ho hb hk))
 go_ret
 exact ⟨rfl, HB2.out⟩

theorem z6_1_ {p : Prop} (h : p := by refine b_ ?_; refine blk_put (cs := #[.slice none 0 0]) ?_ 0 _ rfl; exact b_ BK6.out) : p := h
theorem z6_2_ {p : Prop} (h : p := by (try simp only [List.map_toArray, List.map_cons, List.map_nil]); first | done | rfl | (simp only [List.length_drop, List.length_take]; rfl)) : p := h

/-! ### impl_told: function 65 -/
def impl_told.f (k : Nat) (a0 : Int) (a1 : Int) (a2 : ByteArray) : Option (Int) := if a0 = 0 then (if 0 ≤ (wrap64 (2 * a1)) then (if (wrap64 (2 * a1)) ≤ (wrap64 ((wrap64 (2 * a1)) + 2)) then (if (wrap64 ((wrap64 (2 * a1)) + 2)) ≤ (a2.size : Int) then ((impl_sumOf.f k (a2.extract ((wrap64 (2 * a1)) : Int).toNat ((wrap64 ((wrap64 (2 * a1)) + 2)) : Int).toNat)).bind fun t201 => (some t201)) else (none)) else (none)) else (none)) else (if a0 = 1 then (if 0 ≤ a1 then (if a1 < (a2.size : Int) then (some (((bt a2 a1) - 48) % 256)) else (none)) else (none)) else (if a0 = 2 then ((impl_isLucky.f k a2).bind fun t202 => ((impl_bit.f t202).bind fun t203 => (some t203))) else (if a0 = 3 then (if 0 ≤ a1 then (if a1 < (a2.size : Int) then (if 0 ≤ (wrap64 (a1 + 1)) then (if (wrap64 (a1 + 1)) < (a2.size : Int) then ((impl_bit.f (decide ((bt a2 a1) < (bt a2 (wrap64 (a1 + 1)))))).bind fun t204 => (some t204)) else (none)) else (none)) else (none)) else (none)) else ((impl_differs.f k a2).bind fun t205 => (some t205)))))
theorem impl_told.mono : ∀ a0 a1 a2 k, LeO (impl_told.f k a0 a1 a2) (impl_told.f (k + 1) a0 a1 a2) := by
 intro a0 a1 a2 k
 unfold impl_told.f
 have m1_ := @impl_differs.mono
 have m2_ := @impl_isLucky.mono
 have m3_ := @impl_sumOf.mono
 exact zM_
set_option maxHeartbeats 8000000 in
set_option maxRecDepth 100000 in
theorem impl_told.calls (k : Nat) (a0 : Int) (a1 : Int) (a2 : ByteArray) (r : Int) (w : World) (h : impl_told.f k a0 a1 a2 = some r) :
 Calls Tryz.prog 65 #[.int .i64 a0, .int .i64 a1, .string a2] w fun e w' => e = .returned (.int .i64 r) ∧ Below w.heap.size w w' := by
 have HB := Aside0.mk (Below.refl w.heap.size w)
 unfold impl_told.f at h
 have H := h
 clear h
 by_cases c4 : a0 = 0
 · obtain ⟨H, c4b0, c4b1⟩ := ep_ c4 H
   clear c4
   obtain ⟨ji5, hji5⟩ : ∃ j_ : Int, (wrap64 (2 * a1)) = j_ := ⟨_, rfl⟩
   replace H : (if 0 ≤ (ji5) then (if (ji5) ≤ (wrap64 ((ji5) + 2)) then (if (wrap64 ((ji5) + 2)) ≤ (a2.size : Int) then ((impl_sumOf.f k (a2.extract ((ji5) : Int).toNat ((wrap64 ((ji5) + 2)) : Int).toNat)).bind fun t201 => (some t201)) else (none)) else (none)) else (none)) = some r := by first | (rw [hji5] at H; exact H) | (simp only [hji5] at H ⊢; exact H)
   have hji5w : (IntKind.i64.wrap (2 * a1)) = ji5 := (i64_w _).trans hji5
   replace H := gd_ H; obtain ⟨c6, H⟩ := H
   have c6b0 := eq_true c6
   have c6b1 : decide (0 ≤ (ji5)) = true := decide_eq_true c6
   clear c6
   replace H := gd_ H; obtain ⟨c7, H⟩ := H
   have c7b0 := eq_true c7
   have c7b1 : decide ((ji5) ≤ (wrap64 ((ji5) + 2))) = true := decide_eq_true c7
   replace H := gd_ H; obtain ⟨c8, H⟩ := H
   have c8b0 := eq_true c8
   have c8b1 : decide ((wrap64 ((ji5) + 2)) ≤ (a2.size : Int)) = true := decide_eq_true c8
   replace H := bd_ H; obtain ⟨t201, A9, H⟩ := H
   obtain rfl := Option.some.inj H
   go_enter Tryz.func65, Tryz.ntmps65
   go_wp2_with (first | (go_at_call 71; (with_reducible refine (impl_sumOf.calls k (a2.extract ((ji5) : Int).toNat ((wrap64 ((ji5) + 2)) : Int).toNat) t201 _ A9.out).mono ?_); rintro e w' ⟨rfl, ⟨nd, rfl⟩⟩; (try first | exact ⟨rfl, _, World.drewN_drewN _ _ _⟩ | exact ⟨rfl, _, Eq.trans (World.drewN_drewN _ _ _) (congrArg (World.drewN _) (Nat.add_assoc _ _ _))⟩)))
   repeat (go_quiet (fail); try go_wp2_with (first | (go_at_call 71; (with_reducible refine (impl_sumOf.calls k (a2.extract ((ji5) : Int).toNat ((wrap64 ((ji5) + 2)) : Int).toNat) t201 _ A9.out).mono ?_); rintro e w' ⟨rfl, ⟨nd, rfl⟩⟩; (try first | exact ⟨rfl, _, World.drewN_drewN _ _ _⟩ | exact ⟨rfl, _, Eq.trans (World.drewN_drewN _ _ _) (congrArg (World.drewN _) (Nat.add_assoc _ _ _))⟩))))
   go_ret
   exact ⟨by first | rfl | (simp [errW_none, errW_some] <;> rfl) | (simp only [← hji5]; first | rfl | (simp [errW_none, errW_some] <;> rfl)) | (simp [*, errW_none, errW_some] <;> rfl), zB_⟩
 obtain ⟨H, c4b0, c4b1⟩ := en_ c4 H
 by_cases c10 : a0 = 1
 · obtain ⟨H, c10b0, c10b1⟩ := ep_ c10 H
   clear c10
   replace H := gd_ H; obtain ⟨c11, H⟩ := H
   have c11b0 : decide (0 ≤ a1) = true := decide_eq_true c11
   clear c11
   replace H := gd_ H; obtain ⟨c12, H⟩ := H
   have c12b0 : decide (a1 < (a2.size : Int)) = true := decide_eq_true c12
   clear c12
   obtain rfl := Option.some.inj H
   have p13 : 0 ≤ (a1 : Int) := of_decide_eq_true zS_
   have q13 : a1 < (a2.size : Int) := of_decide_eq_true zS_
   have hx13 := bt_at a2 a1
   replace p13 := eq_true p13
   replace q13 := eq_true q13
   go_enter Tryz.func65, Tryz.ntmps65
   go_wp2
   repeat (go_quiet (fail); try go_wp2)
   go_ret
   exact ⟨zR_, zB_⟩
 obtain ⟨H, c10b0, c10b1⟩ := en_ c10 H
 by_cases c14 : a0 = 2
 · obtain ⟨H, c14b0, c14b1⟩ := ep_ c14 H
   clear c14
   replace H := bd_ H; obtain ⟨t202, A15, H⟩ := H
   replace H := bd_ H; obtain ⟨t203, A16, H⟩ := H
   obtain rfl := Option.some.inj H
   go_enter Tryz.func65, Tryz.ntmps65
   go_wp2_with (first | (go_at_call 73; (with_reducible refine (impl_isLucky.calls k a2 t202 _ A15.out).mono ?_); rintro e w' ⟨rfl, ⟨nd, rfl⟩⟩; (try first | exact ⟨rfl, _, World.drewN_drewN _ _ _⟩ | exact ⟨rfl, _, Eq.trans (World.drewN_drewN _ _ _) (congrArg (World.drewN _) (Nat.add_assoc _ _ _))⟩)) | (go_at_call 102; (with_reducible refine (impl_bit.calls t202 t203 _ A16.out).mono ?_); rintro e w' ⟨rfl, ⟨nd, rfl⟩⟩; (try first | exact ⟨rfl, _, World.drewN_drewN _ _ _⟩ | exact ⟨rfl, _, Eq.trans (World.drewN_drewN _ _ _) (congrArg (World.drewN _) (Nat.add_assoc _ _ _))⟩)))
   repeat (go_quiet (first | (go_at_call 102; (with_reducible refine (impl_bit.calls t202 t203 _ A16.out).mono ?_); rintro e w' ⟨rfl, ⟨nd, rfl⟩⟩; (try first | exact ⟨rfl, _, World.drewN_drewN _ _ _⟩ | exact ⟨rfl, _, Eq.trans (World.drewN_drewN _ _ _) (congrArg (World.drewN _) (Nat.add_assoc _ _ _))⟩))); try go_wp2_with (first | (go_at_call 73; (with_reducible refine (impl_isLucky.calls k a2 t202 _ A15.out).mono ?_); rintro e w' ⟨rfl, ⟨nd, rfl⟩⟩; (try first | exact ⟨rfl, _, World.drewN_drewN _ _ _⟩ | exact ⟨rfl, _, Eq.trans (World.drewN_drewN _ _ _) (congrArg (World.drewN _) (Nat.add_assoc _ _ _))⟩)) | (go_at_call 102; (with_reducible refine (impl_bit.calls t202 t203 _ A16.out).mono ?_); rintro e w' ⟨rfl, ⟨nd, rfl⟩⟩; (try first | exact ⟨rfl, _, World.drewN_drewN _ _ _⟩ | exact ⟨rfl, _, Eq.trans (World.drewN_drewN _ _ _) (congrArg (World.drewN _) (Nat.add_assoc _ _ _))⟩))))
   go_ret
   exact ⟨zR_, zB_⟩
 obtain ⟨H, c14b0, c14b1⟩ := en_ c14 H
 by_cases c17 : a0 = 3
 rotate_left
 · obtain ⟨H, c17b0, c17b1⟩ := en_ c17 H
   replace H := bd_ H; obtain ⟨t205, A26, H⟩ := H
   obtain rfl := Option.some.inj H
   go_enter Tryz.func65, Tryz.ntmps65
   go_wp2_with (first | (go_at_call 103; (with_reducible refine (impl_differs.calls k a2 t205 _ A26.out).mono ?_); rintro e w27 ⟨rfl, hb⟩; replace HB := Aside0.mk (below_step zB_ hb)))
   repeat (go_quiet (fail); try go_wp2_with (first | (go_at_call 103; (with_reducible refine (impl_differs.calls k a2 t205 _ A26.out).mono ?_); rintro e w27 ⟨rfl, hb⟩; replace HB := Aside0.mk (below_step zB_ hb))))
   go_ret
   exact ⟨zR_, zB_⟩
 obtain ⟨H, c17b0, c17b1⟩ := ep_ c17 H
 clear c17
 replace H := gd_ H; obtain ⟨c18, H⟩ := H
 have c18b0 : decide (0 ≤ a1) = true := decide_eq_true c18
 clear c18
 replace H := gd_ H; obtain ⟨c19, H⟩ := H
 have c19b0 : decide (a1 < (a2.size : Int)) = true := decide_eq_true c19
 clear c19
 obtain ⟨ji21, hji21⟩ : ∃ j_ : Int, (wrap64 (a1 + 1)) = j_ := ⟨_, rfl⟩
 replace H : (if 0 ≤ (ji21) then (if (ji21) < (a2.size : Int) then ((impl_bit.f (decide ((bt a2 a1) < (bt a2 (ji21))))).bind fun t204 => (some t204)) else (none)) else (none)) = some r := by first | (rw [hji21] at H; exact H) | (simp only [hji21] at H ⊢; exact H)
 have hji21w : (IntKind.i64.wrap (a1 + 1)) = ji21 := (i64_w _).trans hji21
 replace H := gd_ H; obtain ⟨c22, H⟩ := H
 have c22b0 : decide (0 ≤ (ji21)) = true := decide_eq_true c22
 clear c22
 replace H := gd_ H; obtain ⟨c23, H⟩ := H
 have c23b0 : decide ((ji21) < (a2.size : Int)) = true := decide_eq_true c23
 clear c23
 replace H := bd_ H; obtain ⟨t204, A25, H⟩ := H
 obtain rfl := Option.some.inj H
 have p20 : 0 ≤ (a1 : Int) := of_decide_eq_true zS_
 have q20 : a1 < (a2.size : Int) := of_decide_eq_true zS_
 have hx20 := bt_at a2 a1
 replace p20 := eq_true p20
 replace q20 := eq_true q20
 have p24 : 0 ≤ ((ji21) : Int) := of_decide_eq_true zS_
 have q24 : (ji21) < (a2.size : Int) := of_decide_eq_true zS_
 have hx24 := bt_at a2 (ji21)
 replace p24 := eq_true p24
 replace q24 := eq_true q24
 go_enter Tryz.func65, Tryz.ntmps65
 go_wp2_with (first | (go_at_call 102; (with_reducible refine (impl_bit.calls (decide ((bt a2 a1) < (bt a2 (ji21)))) t204 _ A25.out).mono ?_); rintro e w' ⟨rfl, ⟨nd, rfl⟩⟩; (try first | exact ⟨rfl, _, World.drewN_drewN _ _ _⟩ | exact ⟨rfl, _, Eq.trans (World.drewN_drewN _ _ _) (congrArg (World.drewN _) (Nat.add_assoc _ _ _))⟩)))
 repeat (go_quiet (first | (go_at_call 102; (with_reducible refine (impl_bit.calls (decide ((bt a2 a1) < (bt a2 (ji21)))) t204 _ A25.out).mono ?_); rintro e w' ⟨rfl, ⟨nd, rfl⟩⟩; (try first | exact ⟨rfl, _, World.drewN_drewN _ _ _⟩ | exact ⟨rfl, _, Eq.trans (World.drewN_drewN _ _ _) (congrArg (World.drewN _) (Nat.add_assoc _ _ _))⟩))); try go_wp2_with (first | (go_at_call 102; (with_reducible refine (impl_bit.calls (decide ((bt a2 a1) < (bt a2 (ji21)))) t204 _ A25.out).mono ?_); rintro e w' ⟨rfl, ⟨nd, rfl⟩⟩; (try first | exact ⟨rfl, _, World.drewN_drewN _ _ _⟩ | exact ⟨rfl, _, Eq.trans (World.drewN_drewN _ _ _) (congrArg (World.drewN _) (Nat.add_assoc _ _ _))⟩))))
 go_ret
 exact ⟨by first | rfl | (simp [errW_none, errW_some] <;> rfl) | (simp only [← hji21]; first | rfl | (simp [errW_none, errW_some] <;> rfl)) | (simp [*, errW_none, errW_some] <;> rfl), zB_⟩

/-! ### impl_MakePuzzle: function 7 -/
-- behind 62 63 65
def impl_MakePuzzle.nx (z : Int) : Int := Int.tmod (wrap64 ((wrap64 (z * 303)) + 709)) 10007
def impl_MakePuzzle.go (k : Nat) (t : ByteArray) : Nat → Int → List S37 → Option (List S37)
 | 0, _, l => some l
 | c + 1, z, l => if 0 ≤ Int.tmod (impl_MakePuzzle.nx z) 5 then (if Int.tmod (impl_MakePuzzle.nx z) 5 < 5 then (if rd ([2, 4, 1, 3, 1] : List Int) (Int.tmod (impl_MakePuzzle.nx z) 5) = 0 then none else (impl_told.f k (Int.tmod (impl_MakePuzzle.nx z) 5) (Int.tmod (impl_MakePuzzle.nx (impl_MakePuzzle.nx z)) (rd ([2, 4, 1, 3, 1] : List Int) (Int.tmod (impl_MakePuzzle.nx z) 5))) t).bind fun b => impl_MakePuzzle.go k t c (impl_MakePuzzle.nx (impl_MakePuzzle.nx z)) (l ++ [(⟨Int.tmod (impl_MakePuzzle.nx z) 5, Int.tmod (impl_MakePuzzle.nx (impl_MakePuzzle.nx z)) (rd ([2, 4, 1, 3, 1] : List Int) (Int.tmod (impl_MakePuzzle.nx z) 5)), b⟩ : S37)])) else none) else none
def impl_MakePuzzle.f (k : Nat) (a0 : ByteArray) (a1 : Int) (a2 : Int) : Option ((List (S37)) × Bool) := (impl_isHidden.f k a0).bind fun t1 => if t1 = true then (impl_within.f a1 0 6).bind fun t2 => (if t2 = true then (impl_within.f a2 0 9999).bind fun t3 => (if t3 = true then (if a1 ≤ 6 then (impl_MakePuzzle.go k a0 a1.toNat a2 []).bind fun l => some (l, true) else none) else some ([], false)) else some ([], false)) else some ([], false)
theorem impl_MakePuzzle.go_mono (k : Nat) (t : ByteArray) : ∀ c z l, LeO (impl_MakePuzzle.go k t c z l) (impl_MakePuzzle.go (k + 1) t c z l)
 | 0, _, _ => LeO.refl _
 | c + 1, z, l => by
  unfold impl_MakePuzzle.go
  exact LeO.ite (LeO.ite (LeO.ite (LeO.refl _) (LeO.bind (impl_told.mono _ _ _ _) (fun b => impl_MakePuzzle.go_mono k t c _ _))) (LeO.refl _)) (LeO.refl _)
theorem impl_MakePuzzle.mono : ∀ a0 a1 a2 k, LeO (impl_MakePuzzle.f k a0 a1 a2) (impl_MakePuzzle.f (k + 1) a0 a1 a2) := by
 intro a0 a1 a2 k
 unfold impl_MakePuzzle.f
 exact LeO.bind (impl_isHidden.mono _ _) (fun _ => LeO.ite (LeO.bind (LeO.refl _) (fun _ => LeO.ite (LeO.bind (LeO.refl _) (fun _ => LeO.ite (LeO.ite (LeO.bind (impl_MakePuzzle.go_mono _ _ _ _ _) (fun _ => LeO.refl _)) (LeO.refl _)) (LeO.refl _))) (LeO.refl _))) (LeO.refl _))
theorem impl_MakePuzzle.succ_ (n : Nat) (h : n < 4611686018427387904) : Value.int .i64 (wrap64 ((n : Int) + 1)) = Value.int .i64 ((n + 1 : Nat) : Int) := by
 have : wrap64 ((n : Int) + 1) = ((n + 1 : Nat) : Int) := by simp [wrap64]; omega
 rw [this]
set_option maxHeartbeats 8000000 in
set_option maxRecDepth 100000 in
theorem impl_MakePuzzle_1.calls (g : Nat) (z : Int) (w : World) (hc : w.heap[g]? = some (.cells #[.int .i64 z] 3 (0, 0))) :
 Calls Tryz.prog 64 #[.pointer (some ⟨g, 0, none⟩)] w fun e w' => e = .returned (.int .i64 (impl_MakePuzzle.nx z)) ∧ w' = w.setCell ⟨g, 0, none⟩ (.int .i64 (impl_MakePuzzle.nx z)) := by
 have hcell : w.cell? ⟨g, 0, none⟩ = some (.int .i64 z) := (blk_cell hc 0).trans rfl
 have hfz := blk_frozen hc 0
 go_enter Tryz.func64, Tryz.ntmps64
 go_wp2
 go_ret
 exact ⟨rfl, rfl⟩
def impl_MakePuzzle.T10 : Bool × List (List Nat × List Nat) := (true, [([], []), ([0], [0]), ([], []), ([], []), ([], []), ([], []), ([], []), ([4, 5, 6], [4, 5, 6]), ([2, 3, 7], [2, 3, 7]), ([8], [8]), ([1, 9, 7], [1, 9]), ([0, 1, 2, 3, 4, 5, 6, 7, 8, 9, 10], []), ([11, 10, 10, 0, 1, 2, 3, 4, 5, 6, 7, 8, 9, 10], [10, 11])])
def impl_MakePuzzle.B10 : List Nat := [0, 1, 0, 0, 0, 0, 0, 112, 252, 508, 1023, 2047, 4095]
theorem impl_MakePuzzle.tab10 : rtab .any (opsOf Tryz.f7 10) = impl_MakePuzzle.T10 := by kernel_rfl
theorem impl_MakePuzzle.bits10 : waitsOk impl_MakePuzzle.T10.2 impl_MakePuzzle.B10 = true := by kernel_rfl
set_option maxHeartbeats 8000000 in
set_option maxRecDepth 100000 in
theorem impl_MakePuzzle.calls (k : Nat) (a0 : ByteArray) (a1 : Int) (a2 : Int) (r1 : List (S37)) (r2 : Bool) (w : World) (h : impl_MakePuzzle.f k a0 a1 a2 = some (r1, r2)) :
 Calls Tryz.prog 7 #[.string a0, .int .i64 a1, .int .i64 a2] w fun e w' => ∃ v0_ : Value, e = .returned (.tuple #[.agg #[v0_], .bool r2]) ∧ Kd.R k37 37 w' w.heap.size (fun _ => True) v0_ r1 ∧ Below w.heap.size w w' := by
 have hu30 := Tryz.underlying28
 have HB := Aside0.mk (Below.refl w.heap.size w)
 have H0 := Aside0.mk h
 clear h
 go_enter Tryz.func7, Tryz.ntmps7
 go_upto_region 1 with (first | (refine bx_ 5 #[.int .i64 a2] 3 ?_; intro gb5 hg w5 hbox hb; have n0_ := Aside0.mk (below_step HB.out hb); have BK5 := Aside0.mk hbox; have GE5 := Aside0.mk ((by rw [hg]; exact below_size HB.out : w.heap.size ≤ gb5)); clear HB; have HB := n0_; clear n0_ hb hbox hg) | (refine bx_ 6 #[.slice none 0 0] 28 ?_; intro gb6 hg w6 hbox hb; have n0_ := Aside0.mk (below_step HB.out hb); have BK6 := Aside0.mk hbox; have GE6 := Aside0.mk ((by rw [hg]; exact below_size HB.out : w.heap.size ≤ gb6)); have NB5_6 := Aside0.mk ((by rw [hg]; exact Nat.ne_of_lt (blk_lt BK5.out) : gb5 ≠ gb6)); have n1_ := Aside0.mk (blk_below BK5.out hb); clear HB BK5; have HB := n0_; have BK5 := n1_; clear n0_ n1_ hb hbox hg))
 (try simp only [Act.put, List.setIfInBounds_toArray, List.set_cons_zero, List.set_cons_succ])
 go_cut [25] (fun v25 wc => ∃ (x25 : Bool), v25 = .bool x25 ∧ Aside0 ((x25 = true ∧ r1 = [] ∧ r2 = false) ∨ (x25 = false ∧ a1 ≤ 6 ∧ r2 = true ∧ impl_MakePuzzle.go k a0 a1.toNat a2 [] = some r1)) ∧ Aside0 (wc.heap[gb5]? = some (.cells #[.int .i64 a2] 3 (0, 0))) ∧ Aside0 (wc.heap[gb6]? = some (.cells #[.slice none 0 0] 28 (0, 0))) ∧ Aside0 (Below w.heap.size w wc))
 case first =>
  have h := H0.out
  clear H0
  unfold impl_MakePuzzle.f at h
  obtain ⟨t1, h1, h⟩ := Option.bind_eq_some_iff.mp h
  have A1 := Aside0.mk h1
  clear h1
  cases t1 with
  | false =>
   rw [if_neg (by decide)] at h
   simp only [Option.some.injEq, Prod.mk.injEq] at h
   have HR := Aside0.mk h
   clear h
   go_wp2_with (first | (go_at_call 62; (with_reducible refine (impl_isHidden.calls k a0 false _ A1.out).mono ?_); rintro e w7 ⟨rfl, hb⟩; have n0_ := Aside0.mk (below_step HB.out hb); have n1_ := Aside0.mk (blk_below BK5.out hb); have n2_ := Aside0.mk (blk_below BK6.out hb); clear HB BK5 BK6; have HB := n0_; have BK5 := n1_; have BK6 := n2_; clear n0_ n1_ n2_ hb))
   go_meet
   case rel => exact ⟨true, by first | rfl | (simp; done) | (simp [*]; done), ⟨Or.inl ⟨rfl, HR.out.1.symm, HR.out.2.symm⟩⟩, BK5, BK6, HB⟩
  | true =>
   rw [if_pos rfl] at h
   obtain ⟨t2, h2, h⟩ := Option.bind_eq_some_iff.mp h
   have A2 := Aside0.mk h2
   clear h2
   cases t2 with
   | false =>
    rw [if_neg (by decide)] at h
    simp only [Option.some.injEq, Prod.mk.injEq] at h
    have HR := Aside0.mk h
    clear h
    go_wp2_with (first | (go_at_call 62; (with_reducible refine (impl_isHidden.calls k a0 true _ A1.out).mono ?_); rintro e w7 ⟨rfl, hb⟩; have n0_ := Aside0.mk (below_step HB.out hb); have n1_ := Aside0.mk (blk_below BK5.out hb); have n2_ := Aside0.mk (blk_below BK6.out hb); clear HB BK5 BK6; have HB := n0_; have BK5 := n1_; have BK6 := n2_; clear n0_ n1_ n2_ hb) | (go_at_call 63; (with_reducible refine (impl_within.calls a1 0 6 false _ A2.out).mono ?_); rintro e w' ⟨rfl, ⟨nd, rfl⟩⟩))
    go_meet
    case rel => exact ⟨true, by first | rfl | (simp; done) | (simp [*]; done), ⟨Or.inl ⟨rfl, HR.out.1.symm, HR.out.2.symm⟩⟩, ⟨b_ BK5.out⟩, ⟨b_ BK6.out⟩, ⟨zB_⟩⟩
   | true =>
    rw [if_pos rfl] at h
    obtain ⟨t3, h3, h⟩ := Option.bind_eq_some_iff.mp h
    have A3 := Aside0.mk h3
    clear h3
    have HR : Aside0 ((!t3) = true ∧ r1 = [] ∧ r2 = false ∨ (!t3) = false ∧ a1 ≤ 6 ∧ r2 = true ∧ impl_MakePuzzle.go k a0 a1.toNat a2 [] = some r1) := by
     constructor
     cases t3 with
     | false =>
      rw [if_neg (by decide)] at h
      simp only [Option.some.injEq, Prod.mk.injEq] at h
      exact Or.inl ⟨rfl, h.1.symm, h.2.symm⟩
     | true =>
      rw [if_pos rfl] at h
      by_cases c : a1 ≤ 6
      rotate_left
      · exact none_ (if_neg c) h
      rw [if_pos c] at h
      obtain ⟨l, hl, h⟩ := Option.bind_eq_some_iff.mp h
      simp only [Option.some.injEq, Prod.mk.injEq] at h
      obtain ⟨rfl, rfl⟩ := h
      exact Or.inr ⟨rfl, c, rfl, hl⟩
    clear h
    go_wp2_with (first | (go_at_call 62; (with_reducible refine (impl_isHidden.calls k a0 true _ A1.out).mono ?_); rintro e w7 ⟨rfl, hb⟩; have n0_ := Aside0.mk (below_step HB.out hb); have n1_ := Aside0.mk (blk_below BK5.out hb); have n2_ := Aside0.mk (blk_below BK6.out hb); clear HB BK5 BK6; have HB := n0_; have BK5 := n1_; have BK6 := n2_; clear n0_ n1_ n2_ hb; have hcell : w7.cell? ⟨gb5, 0, none⟩ = some (.int .i64 a2) := (blk_cell BK5.out 0).trans rfl) | (go_at_call 63; (with_reducible refine (impl_within.calls a1 0 6 true _ A2.out).mono ?_); rintro e w' ⟨rfl, ⟨nd, rfl⟩⟩) | (go_at_call 63; (with_reducible refine (impl_within.calls a2 0 9999 t3 _ A3.out).mono ?_); rintro e w' ⟨rfl, ⟨nd, rfl⟩⟩))
    go_meet
    case rel => exact ⟨(!t3), by first | rfl | (simp; done) | (simp [*]; done), HR, ⟨b_ BK5.out⟩, ⟨b_ BK6.out⟩, ⟨zB_⟩⟩
 case rest =>
  clear H0
  obtain ⟨x25, rfl, HX, BK5, BK6, HB⟩ := hcut
  cases x25 with
  | true =>
   obtain ⟨hr1, hr2⟩ : r1 = [] ∧ r2 = false := by
    rcases HX.out with ⟨_, h1, h2⟩ | ⟨h, _⟩
    · exact ⟨h1, h2⟩
    cases h
   subst hr1; subst hr2
   have hcz : wc.cell? ⟨gb6, 0, none⟩ = some (.slice none 0 0) := (blk_cell BK6.out 0).trans rfl
   have hfz := blk_frozen BK6.out 0
   go_wp2
   refine bodyPost_ret (results_ct rfl _ _ gb6 28 #[.slice none 0 0] (0, 0) _ rfl z6_1_ Tryz.underlying28 rfl (by kernel_rfl)) rfl ?_
   exact ⟨_, by first | rfl | (simp [*]; done), Kd.R_nil _ _ _ _ _, by repeat (first | (with_reducible first | exact HB.out | apply below_alloc | apply pw_below_drewN | apply below_drew1 | refine below_set ?_ GE6.out) | exact HB.out)⟩
  | false =>
   obtain ⟨ha1, hr2, hgo⟩ : a1 ≤ 6 ∧ r2 = true ∧ impl_MakePuzzle.go k a0 a1.toNat a2 [] = some r1 := by
    rcases HX.out with ⟨h, _⟩ | ⟨_, h⟩
    · cases h
    exact h
   subst hr2
   have HA1 := Aside0.mk ha1
   have HGO := Aside0.mk hgo
   clear ha1 hgo HX
   go_wp2_with (first | (refine bx_ 9 #[.slice none 0 0] 28 ?_; intro gb9 hg w9 hbox hb; have n0_ := Aside0.mk (below_step HB.out hb); have n1_ := Aside0.mk (blk_below BK5.out hb); have n2_ := Aside0.mk (blk_below BK6.out hb); have BK9 := Aside0.mk hbox; have GE9 := Aside0.mk ((by rw [hg]; exact below_size HB.out : w.heap.size ≤ gb9)); have NB5_9 := Aside0.mk ((by rw [hg]; exact Nat.ne_of_lt (blk_lt BK5.out) : gb5 ≠ gb9)); have NB6_9 := Aside0.mk ((by rw [hg]; exact Nat.ne_of_lt (blk_lt BK6.out) : gb6 ≠ gb9)); clear HB BK5 BK6; have HB := n0_; have BK5 := n1_; have BK6 := n2_; clear n0_ n1_ n2_ hb hbox hg; have hcz9 : w9.cell? ⟨gb9, 0, none⟩ = some (.slice none 0 0) := (blk_cell BK9.out 0).trans rfl; have hfz9 := blk_frozen BK9.out 0))
   go_loopg [30] (a1.toNat + 1) (fun kq v30 w' => ∃ (n : Nat) (z : Int) (l : List S37) (u : Value), v30 = .int .i64 (n : Int) ∧ Aside0 (n + kq = a1.toNat + 1) ∧ Aside0 (l.length ≤ n) ∧ Aside0 (impl_MakePuzzle.go k a0 (a1.toNat - n) z l = some r1) ∧ Aside0 (Kd.R k37 37 w' w.heap.size (fun _ => True) u l) ∧ Aside0 (w'.heap[gb5]? = some (.cells #[.int .i64 z] 3 (0, 0))) ∧ Aside0 (w'.heap[gb6]? = some (.cells #[.slice none 0 0] 28 (0, 0))) ∧ Aside0 (w'.heap[gb9]? = some (.cells #[u] 28 (0, 0))) ∧ Aside0 (Below w.heap.size w w'))
   case atStart => exact ⟨0, a2, [], .slice none 0 0, rfl, ⟨by omega⟩, ⟨Nat.le_refl _⟩, HGO, ⟨Kd.R_nil _ _ _ _ _⟩, ⟨blk_far BK5.out NB5_9.out _⟩, ⟨blk_far BK6.out NB6_9.out _⟩, ⟨blk_put BK9.out 0 _ rfl⟩, ⟨below_set HB.out GE9.out⟩⟩
   case round =>
    clear HGO BK5 BK6 BK9 HB hcz9 hfz9
    obtain ⟨n, z, l, u, rfl, HN, HL, HA, HO, BK5, BK6, BK9, HB⟩ := hrel
    by_cases c : n < a1.toNat
    · have c1 : decide ((n : Int) < a1) = true := decide_eq_true (by omega)
      have h := HA.out
      rw [show a1.toNat - n = (a1.toNat - (n + 1)) + 1 by omega] at h
      unfold impl_MakePuzzle.go at h
      obtain ⟨z1, hz1⟩ : ∃ z1, z1 = impl_MakePuzzle.nx z := ⟨_, rfl⟩
      obtain ⟨z2, hz2⟩ : ∃ z2, z2 = impl_MakePuzzle.nx z1 := ⟨_, rfl⟩
      rw [← hz1, ← hz2] at h
      obtain ⟨kd, hkd⟩ : ∃ kd, kd = Int.tmod z1 5 := ⟨_, rfl⟩
      obtain ⟨ys, hys⟩ : ∃ ys : List Int, ys = [2, 4, 1, 3, 1] := ⟨_, rfl⟩
      rw [← hkd, ← hys] at h
      obtain ⟨md, hmd⟩ : ∃ md, md = rd ys kd := ⟨_, rfl⟩
      rw [← hmd] at h
      by_cases h0 : 0 ≤ kd
      rotate_left
      · exact none_ (if_neg h0) h
      rw [if_pos h0] at h
      by_cases h5 : kd < 5
      rotate_left
      · exact none_ (if_neg h5) h
      rw [if_pos h5] at h
      by_cases hm0 : md = 0
      · exact none_ (if_pos hm0) h
      rw [if_neg hm0] at h
      obtain ⟨a, ha⟩ : ∃ a, a = Int.tmod z2 md := ⟨_, rfl⟩
      rw [← ha] at h
      obtain ⟨b, hb0, h⟩ := Option.bind_eq_some_iff.mp h
      obtain ⟨l2, hl2⟩ : ∃ l2, l2 = l ++ [(⟨kd, a, b⟩ : S37)] := ⟨_, rfl⟩
      rw [← hl2] at h
      have hyl : (ys.length : Int) = 5 := by rw [hys]; rfl
      have HZ1 := Aside0.mk hz1
      have HZ2 := Aside0.mk hz2
      have HKD := Aside0.mk hkd
      have HYS := Aside0.mk hys
      have HMD := Aside0.mk hmd
      have HAA := Aside0.mk ha
      have HTO := Aside0.mk hb0
      have HA2 := Aside0.mk h
      have HL2 := Aside0.mk hl2
      have HCN := Aside0.mk c
      have p0 : (0 ≤ kd) = True := eq_true h0
      have q0 : (kd < (ys.length : Int)) = True := eq_true (by omega)
      have HP0 := Aside0.mk h0
      have HQ0 := Aside0.mk (show kd < (ys.length : Int) by omega)
      clear HA h hz1 hz2 hkd hys hmd ha hb0 hl2 c h0 h5 hyl
      go_wp2_with (first | (go_at_call 64; (with_reducible refine (impl_MakePuzzle_1.calls gb5 z _ BK5.out).mono ?_); rintro e w11 ⟨rfl, hw⟩; rw [← HZ1.out] at hw ⊢; replace HO := Aside0.mk (by rw [hw]; exact Kd.R_mono (Kd.R_far (p := ⟨gb5, 0, none⟩) (Kd.R_types HO.out BK5.out (by decide)) (fun _ hk => hk.2) _) (fun _ hk => trivial) : Kd.R k37 37 w11 w.heap.size (fun _ => True) u l); replace BK5 := Aside0.mk (by rw [hw]; exact blk_put BK5.out 0 _ rfl : w11.heap[gb5]? = some (.cells #[.int .i64 z1] 3 (0, 0))); replace BK6 := Aside0.mk (by rw [hw]; exact blk_far BK6.out (Ne.symm NB5_6.out) _ : w11.heap[gb6]? = some (.cells #[.slice none 0 0] 28 (0, 0))); replace BK9 := Aside0.mk (by rw [hw]; exact blk_far BK9.out (Ne.symm NB5_9.out) _ : w11.heap[gb9]? = some (.cells #[u] 28 (0, 0))); replace HB := Aside0.mk (by rw [hw]; exact below_set HB.out GE5.out : Below w.heap.size w w11); clear hw) | (go_at_call 64; (with_reducible refine (impl_MakePuzzle_1.calls gb5 z1 _ BK5.out).mono ?_); rintro e w12 ⟨rfl, hw⟩; rw [← HZ2.out] at hw ⊢; replace HO := Aside0.mk (by rw [hw]; exact Kd.R_mono (Kd.R_far (p := ⟨gb5, 0, none⟩) (Kd.R_types HO.out BK5.out (by decide)) (fun _ hk => hk.2) _) (fun _ hk => trivial) : Kd.R k37 37 w12 w.heap.size (fun _ => True) u l); replace BK5 := Aside0.mk (by rw [hw]; exact blk_put BK5.out 0 _ rfl : w12.heap[gb5]? = some (.cells #[.int .i64 z2] 3 (0, 0))); replace BK6 := Aside0.mk (by rw [hw]; exact blk_far BK6.out (Ne.symm NB5_6.out) _ : w12.heap[gb6]? = some (.cells #[.slice none 0 0] 28 (0, 0))); replace BK9 := Aside0.mk (by rw [hw]; exact blk_far BK9.out (Ne.symm NB5_9.out) _ : w12.heap[gb9]? = some (.cells #[u] 28 (0, 0))); replace HB := Aside0.mk (by rw [hw]; exact below_set HB.out GE5.out : Below w.heap.size w w12); clear hw; (try simp only [← HKD.out])) | ((with_reducible refine gate_dst (N := 38) rfl ?_); refine Kd.R_lit (Kd.int .i64) _ 3 ?hg (N := 38) ?hd (xs := ([2, 4, 1, 3, 1] : List Int)) (inner := [.int .i64 2, .int .i64 4, .int .i64 1, .int .i64 3, .int .i64 1]) (ok := fun _ => True) (okp := fun _ => True) ?hr ?hp (fun _ hk => hk) trivial (Below.refl _ _) (Nat.le_refl _) (by simp) ?_; (case hd => rfl); (case hg => rfl); (case hr => exact zc6_5_); (case hp => exact (Reps.one (show Kd.M (Kd.int .i64) _ _ _ 2 [.int .i64 2] from rfl) (Reps.one (show Kd.M (Kd.int .i64) _ _ _ 4 [.int .i64 4] from rfl) (Reps.one (show Kd.M (Kd.int .i64) _ _ _ 1 [.int .i64 1] from rfl) (Reps.one (show Kd.M (Kd.int .i64) _ _ _ 3 [.int .i64 3] from rfl) (Reps.one (show Kd.M (Kd.int .i64) _ _ _ 1 [.int .i64 1] from rfl) (Reps.none _ _))))))); intro v13 w13 ho13 hb hg_ hnew_; clear hg_ hnew_; (first | rw [← HYS.out] at ho13 | (simp only [Int.reduceToNat] at ho13; rw [← HYS.out] at ho13)); replace HO := Aside0.mk (Kd.R_below HO.out hb); replace BK5 := Aside0.mk (blk_below BK5.out hb); replace BK6 := Aside0.mk (blk_below BK6.out hb); replace BK9 := Aside0.mk (blk_below BK9.out hb); replace HB := Aside0.mk (below_step HB.out hb); have HO13 := Aside0.mk ho13; clear hb ho13; obtain ⟨Ao13, co13, eo13⟩ := Kd.R_slice HO13.out; subst eo13; obtain ⟨ad13, e13, hx13⟩ := Kd.at_int (Kd.R_reads' HO13.out).2.2 kd HP0.out HQ0.out; cases e13; rw [← HMD.out] at hx13))
      (try simp only [← HAA.out])
      have n0_ := Aside0.mk (Kd.R_drew HO.out)
      have n1_ := Aside0.mk (blk_drew BK5.out)
      have n2_ := Aside0.mk (blk_drew BK6.out)
      have n3_ := Aside0.mk (blk_drew BK9.out)
      have n4_ := Aside0.mk (below_drew1 HB.out)
      clear HO BK5 BK6 BK9 HB
      have HO := n0_
      have BK5 := n1_
      have BK6 := n2_
      have BK9 := n3_
      have HB := n4_
      clear n0_ n1_ n2_ n3_ n4_
      refine start_ (n := 13) (S := fun w' => w'.cell? ⟨gb9, 0, none⟩ = some u) (ds := [12]) #[false, false, false, false, false, false, false, false, false, false, false, false, false] (by kernel_rfl) rfl rfl ((blk_cell BK9.out 0).trans rfl) (fun hHeld => ?_); refine with_tabW impl_MakePuzzle.tab10 impl_MakePuzzle.bits10 (fun HT_ HW_ => ?_)
      generalize w13.drew = w21 at HO BK5 BK6 BK9 HB hHeld ⊢
      refine pq_ 0 43 ?_
      refine pq_ 2 45 ?_
      refine pq_ 3 46 ?_
      refine pq_ 4 47 ?_
      refine pq_ 5 48 ?_
      refine pq_ 6 49 ?_
      refine take_ (i := 1) (N := some 44) (v := ?_) (a' := ?_) #[true, true, true, true, true, true, true, false, false, false, false, false, false] rfl rfl (take_ofW HT_.out HW_.out (by kernel_rfl)) (fun _ _ _ h => h) (Or.inl ⟨by rfl, ?_⟩) hHeld ?_ ?_
      rotate_left
      · intro w' s0
        go_simp
        with_reducible rfl
      rotate_left
      · simp only [Act.put, List.setIfInBounds_toArray, List.set_cons_zero, List.set_cons_succ, i64_w, i32_w]
        rfl
      refine one_ (i := 7) (N := some 50) #[true, true, true, true, true, true, true, true, false, false, false, false, false] rfl rfl (one_of HT_.out (by kernel_rfl)) (by decide) (fun K hK => ?_)
      refine goes_ Tryz.func65 (by kernel_rfl) rfl #[.int .i64 kd, .int .i64 a, .string a0] (by rfl) rfl rfl (by (try simp only [List.map_toArray, List.map_cons, List.map_nil]); first | done | rfl) ?_
      with_reducible refine (impl_told.calls k kd a a0 b _ HTO.out).mono ?_
      rintro e w22 ⟨rfl, hb⟩
      refine ⟨_, rfl, ?_⟩
      have n0_ := Aside0.mk (Kd.R_below HO.out hb)
      have n1_ := Aside0.mk (blk_below BK5.out hb)
      have n2_ := Aside0.mk (blk_below BK6.out hb)
      have n3_ := Aside0.mk (blk_below BK9.out hb)
      have n4_ := Aside0.mk (below_step HB.out hb)
      clear HO BK5 BK6 BK9 HB hb
      have HO := n0_
      have BK5 := n1_
      have BK6 := n2_
      have BK9 := n3_
      have HB := n4_
      clear n0_ n1_ n2_ n3_ n4_
      refine hK.out _ _ ((blk_cell BK9.out 0).trans rfl) (fun hHeld => ?_)
      clear hK K
      refine norm_ (a' := ?_) ?_ ?_
      rotate_left
      · show Act.put _ (some 50) _ = _
        simp only [Act.put, List.setIfInBounds_toArray, List.set_cons_zero, List.set_cons_succ, i64_w, i32_w]
        rfl
      refine pq_ 8 51 ?_
      refine one_ (i := 9) (N := some 52) #[true, true, true, true, true, true, true, true, true, true, false, false, false] rfl rfl (one_of HT_.out (by kernel_rfl)) (by decide) (fun K hK => ?_)
      refine value_ (w1 := ?_) (v := ?_) (by rfl) rfl ?_ ?_
      rotate_left 2
      · go_simp
        constructor
        · rfl
        rfl
      refine hK.out _ _ ((blk_cell (blk_alloc BK9.out _) 0).trans rfl) (fun hHeld => ?_)
      clear hK K
      refine norm_ (a' := ?_) ?_ ?_
      rotate_left
      · show Act.put _ (some 52) _ = _
        simp only [Act.put, List.setIfInBounds_toArray, List.set_cons_zero, List.set_cons_succ, i64_w, i32_w]
        rfl
      refine one_ (i := 10) (N := some 53) #[true, true, true, true, true, true, true, true, true, true, true, false, false] rfl rfl (one_of HT_.out (by kernel_rfl)) (by decide) (fun K hK => ?_)
      refine Kd.R_append_step k37 (w0 := w) w.heap.size (by rfl) (.tmp 44) (.tmp 52) 26 37 (.agg #[(.int .i64 0), (.int .i64 0), (.int .i64 0)]) 24 rfl Tryz.underlying26 info37 rfl (by decide) (by omega) u l (⟨kd, a, b⟩ : S37) [.int .i64 kd, .int .i64 a, .int .i64 b] (fun _ => True) (fun _ => False) rfl rfl ?aP (fun _ hk => hk.elim) ?aF ?aO ?aB ?aS ?aL ?_
      (case aP => exact k37_mkM _ _ _ (⟨kd, a, b⟩ : S37))
      (case aB => exact HB.out)
      (case aF => exact (fun _ _ => trivial))
      (case aO => exact HO.out)
      (case aS => exact below_size HB.out)
      (case aL => have := HL.out; have := HCN.out; have := HA1.out; omega)
      intro v23 w23 ho hb hg hat
      rw [← HL2.out] at ho
      have n1_ := Aside0.mk (blk_grown BK5.out hg (Kd.R_ne HO.out BK5.out (by decide)))
      have n2_ := Aside0.mk (blk_grown BK6.out hg (Kd.R_ne HO.out BK6.out (by decide)))
      have n3_ := Aside0.mk (blk_grown BK9.out hg (Kd.R_ne HO.out BK9.out (by decide)))
      have n4_ := Aside0.mk hb
      have n0_ := Aside0.mk ho
      clear HO BK5 BK6 BK9 HB ho hb hg hat
      have HO := n0_
      have BK5 := n1_
      have BK6 := n2_
      have BK9 := n3_
      have HB := n4_
      clear n0_ n1_ n2_ n3_ n4_
      obtain ⟨Ao24, co24, eo24⟩ := Kd.R_slice HO.out
      (first | subst eo24 | (injection eo24 with f1_ f2_ f3_; have f4_ := f1_.symm; have f5_ := f3_.symm; clear f1_ f2_ f3_; subst f4_; subst f5_))
      refine hK.out _ _ ((blk_cell BK9.out 0).trans rfl) (fun hHeld => ?_)
      clear hK K
      refine norm_ (a' := ?_) ?_ ?_
      rotate_left
      · show Act.put _ (some 53) _ = _
        simp only [Act.put, List.setIfInBounds_toArray, List.set_cons_zero, List.set_cons_succ, i64_w, i32_w]
        rfl
      refine pq_ 11 54 ?_
      refine last_ (i := 12) (N := none) #[true, true, true, true, true, true, true, true, true, true, true, true, true] rfl rfl (one_of HT_.out (by kernel_rfl)) (by decide) (fun K hK => ?_)
      have hs25 : w23.cell? ⟨gb9, 0, none⟩ = some u := (blk_cell BK9.out 0).trans rfl
      have hfs25 := blk_frozen BK9.out 0
      refine skip_ (w1 := ?_) (by rfl) rfl ?_ ?_
      rotate_left
      · go_simp
        rfl
      refine hK.out _ _ ?_
      clear hK K
      refine done_ (done_of HT_.out (by kernel_rfl)) ?_
      try go_wp2
      go_roundg (gk - 1)
      case measure => have := HN.out; have := HCN.out; omega
      case rel => exact ⟨n + 1, z2, l2, .slice Ao24 l2.length co24, impl_MakePuzzle.succ_ n (by have := HCN.out; have := HA1.out; omega), ⟨by have := HN.out; have := HCN.out; omega⟩, ⟨by rw [HL2.out, List.length_append]; have := HL.out; simp; omega⟩, HA2, ⟨Kd.R_mono (Kd.R_far (p := ⟨gb9, 0, none⟩) (Kd.R_types HO.out BK9.out (by decide)) (fun _ hk => hk.2) _) (fun _ hk => trivial)⟩, ⟨blk_far BK5.out NB5_9.out _⟩, ⟨blk_far BK6.out NB6_9.out _⟩, ⟨blk_put BK9.out 0 _ rfl⟩, ⟨below_set HB.out GE9.out⟩⟩
    have c1 : decide ((n : Int) < a1) = false := decide_eq_false (by omega)
    have hr : l = r1 := by
     have h := HA.out
     rw [show a1.toNat - n = 0 by omega] at h
     exact Option.some.inj h
    subst hr
    obtain ⟨Ao28, co28, eo28⟩ := Kd.R_slice HO.out
    subst eo28
    have hcz27 : wr.cell? ⟨gb9, 0, none⟩ = some (.slice Ao28 l.length co28) := (blk_cell BK9.out 0).trans rfl
    have hfz27 := blk_frozen BK9.out 0
    have hcz29 : wr.cell? ⟨gb6, 0, none⟩ = some (.slice none 0 0) := (blk_cell BK6.out 0).trans rfl
    have hfz29 := blk_frozen BK6.out 0
    go_wp2
    refine bodyPost_ret (results_ct rfl _ _ gb6 28 #[.slice Ao28 l.length co28] (0, 0) _ rfl z6_1_ Tryz.underlying28 rfl (by kernel_rfl)) rfl ?_
    exact ⟨_, by first | rfl | (simp [*]; done), Kd.R_mono (Kd.R_far (p := ⟨gb6, 0, none⟩) (Kd.R_types HO.out BK6.out (by decide)) (fun _ hk => hk.2) _) (fun _ hk => trivial), below_set HB.out GE6.out⟩

/-! ### spec_l1In: function 67 -/
def spec_l1In.f (a0 : Int) (a1 : Int) (a2 : Int) : Option (Bool) := if a0 ≥ a1 then (some (decide (a0 ≤ a2))) else (some false)
set_option maxHeartbeats 8000000 in
set_option maxRecDepth 100000 in
theorem spec_l1In.calls (a0 : Int) (a1 : Int) (a2 : Int) (r : Bool) (w : World) (h : spec_l1In.f a0 a1 a2 = some r) :
 Calls Tryz.prog 67 #[.int .i64 a0, .int .i64 a1, .int .i64 a2] w fun e w' => e = .returned (.bool r) ∧ Drawn0 w w' := by
 unfold spec_l1In.f at h
 have H := h
 clear h
 by_cases c4 : a0 ≥ a1
 · rw [if_pos c4] at H
   have c4b0 : decide (a1 ≤ a0) = true := decide_eq_true c4
   clear c4
   obtain rfl := Option.some.inj H
   go_enter Tryz.func67, Tryz.ntmps67
   go_wp2
   go_ret
   exact ⟨by first | rfl | (simp; done) | (simp [*]; done), by repeat (first | exact Drawn0.refl _ | apply Drawn0.step)⟩
 rw [if_neg c4] at H
 have c4b0 : decide (a1 ≤ a0) = false := decide_eq_false c4
 clear c4
 obtain rfl := Option.some.inj H
 go_enter Tryz.func67, Tryz.ntmps67
 go_wp2
 go_ret
 exact ⟨by first | rfl | (simp; done) | (simp [*]; done), by repeat (first | exact Drawn0.refl _ | apply Drawn0.step)⟩

/-! ### spec_pzHidden: function 66 -/
def spec_pzHidden.l0 : Nat → ByteArray → Int → Option (Bool)
 | 0, _, _ => none
 | k + 1, x0, x3 => if x3 < 4 then (if 0 ≤ x3 then (if x3 < (x0.size : Int) then ((spec_l1In.f (wrap64 ((wrap64 (bt x0 x3)) - 48)) 0 5).bind fun t206 => (if t206 = true then (spec_pzHidden.l0 k x0 (wrap64 (x3 + 1))) else (some false))) else (none)) else (none)) else (some true)
def spec_pzHidden.f (k : Nat) (a0 : ByteArray) : Option (Bool) := if (a0.size : Int) = 4 then (spec_pzHidden.l0 k a0 0) else (some false)
theorem spec_pzHidden.mono_l : ∀ k, (∀ y0 y1, LeO (spec_pzHidden.l0 k y0 y1) (spec_pzHidden.l0 (k + 1) y0 y1))
 | 0 => fun _ _ r h => by simp [spec_pzHidden.l0] at h
 | k + 1 => by
  have ih0 := spec_pzHidden.mono_l k
  intro y0 y1
  unfold spec_pzHidden.l0
  repeat' first
  | (with_reducible exact ih0 _ _)
  | (with_reducible exact LeO.refl _)
  | (with_reducible exact LeO.none _)
  | (with_reducible refine LeO.ite ?_ ?_)
  | (with_reducible refine LeO.bind ?_ (fun _ => ?_))
  | exact LeO.none _
  | refine LeO.ite ?_ ?_
  | refine LeO.bind ?_ (fun _ => ?_)
theorem spec_pzHidden.mono : ∀ a0 k, LeO (spec_pzHidden.f k a0) (spec_pzHidden.f (k + 1) a0) := by
 intro a0 k
 have ih0 := spec_pzHidden.mono_l k
 unfold spec_pzHidden.f
 repeat' first
  | (with_reducible exact ih0 _ _)
  | (with_reducible exact LeO.refl _)
  | (with_reducible exact LeO.none _)
  | (with_reducible refine LeO.ite ?_ ?_)
  | (with_reducible refine LeO.bind ?_ (fun _ => ?_))
  | exact LeO.none _
  | refine LeO.ite ?_ ?_
  | refine LeO.bind ?_ (fun _ => ?_)
set_option maxHeartbeats 8000000 in
set_option maxRecDepth 100000 in
theorem spec_pzHidden.calls (k : Nat) (a0 : ByteArray) (r : Bool) (w : World) (h : spec_pzHidden.f k a0 = some r) :
 Calls Tryz.prog 66 #[.string a0] w fun e w' => e = .returned (.bool r) ∧ Drawn0 w w' := by
 unfold spec_pzHidden.f at h
 have H := h
 clear h
 by_cases c2 : (a0.size : Int) = 4
 rotate_left
 · rw [if_neg c2] at H
   have c2b0 : ((a0.size : Int) == 4) = false := beq_eq_false_iff_ne.mpr c2
   have c2b1 : ((a0.size : Int) != 4) = true := bne_iff_ne.mpr c2
   obtain rfl := Option.some.inj H
   go_enter Tryz.func66, Tryz.ntmps66
   go_wp2
   go_ret
   exact ⟨by first | rfl | (simp; done) | (simp [*]; done), by repeat (first | exact Drawn0.refl _ | apply Drawn0.step)⟩
 rw [if_pos c2] at H
 have c2b0 : ((a0.size : Int) == 4) = true := beq_iff_eq.mpr c2
 have c2b1 : ((a0.size : Int) != 4) = false := bne_eq_false_iff_eq.mpr c2
 clear c2
 have H' := Aside0.mk H
 clear H
 go_enter Tryz.func66, Tryz.ntmps66
 go_wp2
 go_loopg [3] k (fun kq v3 w' => ∃ (x3_1 : Int), v3 = .int .i64 x3_1 ∧ Aside0 (spec_pzHidden.l0 kq a0 x3_1 = some r) ∧ Aside0 (kq ≤ k) ∧ Drawn0 w w')
 case atStart => exact ⟨(0), zV_, H', ⟨Nat.le_refl _⟩, by repeat (first | exact Drawn0.refl _ | apply Drawn0.step)⟩
 case round =>
  clear H'
  obtain ⟨x3_1, rfl, HA, HK1, ⟨m1, rfl⟩⟩ := hrel
  cases gk with
  | zero => exact absurd HA.out (by simp [spec_pzHidden.l0])
  | succ k1 =>
   have H := HA.out
   clear HA
   simp only [spec_pzHidden.l0] at H
   by_cases c3 : x3_1 < 4
   rotate_left
   · rw [if_neg c3] at H
     have c3b0 := decide_eq_false c3
     clear c3
     obtain rfl := Option.some.inj H
     go_wp2
     go_ret
     exact ⟨by first | rfl | (simp; done) | (simp [*]; done), by repeat (first | exact Drawn0.refl _ | apply Drawn0.step)⟩
   rw [if_pos c3] at H
   have c3b0 := decide_eq_true c3
   clear c3
   replace H := gd_ H; obtain ⟨c4, H⟩ := H
   have c4b0 : decide (0 ≤ x3_1) = true := decide_eq_true c4
   clear c4
   replace H := gd_ H; obtain ⟨c5, H⟩ := H
   have c5b0 : decide (x3_1 < (a0.size : Int)) = true := decide_eq_true c5
   clear c5
   replace H := bd_ H; obtain ⟨t206, A7, H⟩ := H
   by_cases c8 : t206 = true
   · subst c8
     rw [if_pos rfl] at H
     have H' := Aside0.mk H
     clear H
     have p6 : 0 ≤ (x3_1 : Int) := of_decide_eq_true zS_
     have q6 : x3_1 < (a0.size : Int) := of_decide_eq_true zS_
     have hx6 := bt_at a0 x3_1
     replace p6 := eq_true p6
     replace q6 := eq_true q6
     go_wp2_with (first | ((with_reducible refine gc_ 67 rfl ?_); refine gL_ 16 Tryz.func67 #[.int .i64 (wrap64 ((wrap64 (bt a0 x3_1)) - 48)), .int .i64 0, .int .i64 5] ?_; (with_reducible refine (spec_l1In.calls (wrap64 ((wrap64 (bt a0 x3_1)) - 48)) 0 5 true _ A7.out).mono ?_); rintro e w' ⟨rfl, ⟨nd, rfl⟩⟩; refine ⟨_, rfl, ?_⟩))
     go_roundg k1
     case measure => have := HK1.out; omega
     case rel => exact ⟨(wrap64 (x3_1 + 1)), zV_, H', ⟨by have := HK1.out; omega⟩, by repeat (first | exact Drawn0.refl _ | apply Drawn0.step)⟩
   replace H := bf_ c8 H; obtain ⟨rfl, H⟩ := H
   obtain rfl := Option.some.inj H
   have p6 : 0 ≤ (x3_1 : Int) := of_decide_eq_true zS_
   have q6 : x3_1 < (a0.size : Int) := of_decide_eq_true zS_
   have hx6 := bt_at a0 x3_1
   replace p6 := eq_true p6
   replace q6 := eq_true q6
   go_wp2_with (first | ((with_reducible refine gc_ 67 rfl ?_); refine gL_ 16 Tryz.func67 #[.int .i64 (wrap64 ((wrap64 (bt a0 x3_1)) - 48)), .int .i64 0, .int .i64 5] ?_; (with_reducible refine (spec_l1In.calls (wrap64 ((wrap64 (bt a0 x3_1)) - 48)) 0 5 false _ A7.out).mono ?_); rintro e w' ⟨rfl, ⟨nd, rfl⟩⟩; refine ⟨_, rfl, ?_⟩))
   go_ret
   exact ⟨by first | rfl | (simp; done) | (simp [*]; done), by repeat (first | exact Drawn0.refl _ | apply Drawn0.step)⟩

/-! ### spec_pzNext: function 68 -/
def spec_pzNext.f (a0 : Int) : Option (Int) := some (Int.tmod (wrap64 ((wrap64 (303 * a0)) + 709)) 10007)
set_option maxHeartbeats 8000000 in
set_option maxRecDepth 100000 in
theorem spec_pzNext.calls (a0 : Int) (r : Int) (w : World) (h : spec_pzNext.f a0 = some r) :
 Calls Tryz.prog 68 #[.int .i64 a0] w fun e w' => e = .returned (.int .i64 r) ∧ Drawn0 w w' := by
 unfold spec_pzNext.f at h
 have H := h
 clear h
 obtain rfl := Option.some.inj H
 go_enter Tryz.func68, Tryz.ntmps68
 go_wp2
 go_ret
 exact ⟨by first | rfl | (simp; done) | (simp [*]; done), by repeat (first | exact Drawn0.refl _ | apply Drawn0.step)⟩

/-! ### spec_tkSum: function 168 -/
def spec_tkSum.l0 : Nat → ByteArray → Int → Int → Option (Int)
 | 0, _, _, _ => none
 | k + 1, x0, x3, x4 => if x4 < (x0.size : Int) then (if 0 ≤ x4 then (spec_tkSum.l0 k x0 (wrap64 (x3 + (((bt x0 x4) - 48) % 256))) (wrap64 (x4 + 1))) else (none)) else (some x3)
def spec_tkSum.f (k : Nat) (a0 : ByteArray) : Option (Int) := spec_tkSum.l0 k a0 0 0
theorem spec_tkSum.mono_l : ∀ k, (∀ y0 y1 y2, LeO (spec_tkSum.l0 k y0 y1 y2) (spec_tkSum.l0 (k + 1) y0 y1 y2))
 | 0 => fun _ _ _ r h => by simp [spec_tkSum.l0] at h
 | k + 1 => by
  have ih0 := spec_tkSum.mono_l k
  intro y0 y1 y2
  unfold spec_tkSum.l0
  repeat' first
  | (with_reducible exact ih0 _ _ _)
  | (with_reducible exact LeO.refl _)
  | (with_reducible exact LeO.none _)
  | (with_reducible refine LeO.ite ?_ ?_)
  | (with_reducible refine LeO.bind ?_ (fun _ => ?_))
  | exact LeO.none _
  | refine LeO.ite ?_ ?_
  | refine LeO.bind ?_ (fun _ => ?_)
theorem spec_tkSum.mono : ∀ a0 k, LeO (spec_tkSum.f k a0) (spec_tkSum.f (k + 1) a0) := by
 intro a0 k
 have ih0 := spec_tkSum.mono_l k
 unfold spec_tkSum.f
 repeat' first
  | (with_reducible exact ih0 _ _ _)
  | (with_reducible exact LeO.refl _)
  | (with_reducible exact LeO.none _)
  | (with_reducible refine LeO.ite ?_ ?_)
  | (with_reducible refine LeO.bind ?_ (fun _ => ?_))
  | exact LeO.none _
  | refine LeO.ite ?_ ?_
  | refine LeO.bind ?_ (fun _ => ?_)
set_option maxHeartbeats 8000000 in
set_option maxRecDepth 100000 in
theorem spec_tkSum.calls (k : Nat) (a0 : ByteArray) (r : Int) (w : World) (h : spec_tkSum.f k a0 = some r) :
 Calls Tryz.prog 168 #[.string a0] w fun e w' => e = .returned (.int .i64 r) ∧ Drawn0 w w' := by
 unfold spec_tkSum.f at h
 have H := h
 clear h
 have H' := Aside0.mk H
 clear H
 go_enter Tryz.func168, Tryz.ntmps168
 go_wp2
 go_loopg [3, 4] k (fun kq v3 v4 w' => ∃ (x3_1 : Int) (x4_1 : Int), v3 = .int .i64 x3_1 ∧ v4 = .int .i64 x4_1 ∧ Aside0 (spec_tkSum.l0 kq a0 x3_1 x4_1 = some r) ∧ Aside0 (kq ≤ k) ∧ Drawn0 w w')
 case atStart => exact ⟨(0), (0), zV_, zV_, H', ⟨Nat.le_refl _⟩, by repeat (first | exact Drawn0.refl _ | apply Drawn0.step)⟩
 case round =>
  clear H'
  try clear c1
  obtain ⟨x3_1, x4_1, rfl, rfl, HA, HK1, ⟨m1, rfl⟩⟩ := hrel
  cases gk with
  | zero => exact absurd HA.out (by simp [spec_tkSum.l0])
  | succ k1 =>
   have H := HA.out
   clear HA
   simp only [spec_tkSum.l0] at H
   by_cases c2 : x4_1 < (a0.size : Int)
   rotate_left
   · rw [if_neg c2] at H
     have c2b0 := decide_eq_false c2
     clear c2
     obtain rfl := Option.some.inj H
     go_wp2
     go_ret
     exact ⟨by first | rfl | (simp; done) | (simp [*]; done), by repeat (first | exact Drawn0.refl _ | apply Drawn0.step)⟩
   rw [if_pos c2] at H
   have c2b0 := decide_eq_true c2
   clear c2
   replace H := gd_ H; obtain ⟨c3, H⟩ := H
   have c3b0 : decide (0 ≤ x4_1) = true := decide_eq_true c3
   clear c3
   have H' := Aside0.mk H
   clear H
   have p4 : 0 ≤ (x4_1 : Int) := of_decide_eq_true zS_
   have q4 : x4_1 < (a0.size : Int) := of_decide_eq_true zS_
   have hx4 := bt_at a0 x4_1
   replace p4 := eq_true p4
   replace q4 := eq_true q4
   go_wp2
   go_roundg k1
   case measure => have := HK1.out; omega
   case rel => exact ⟨(wrap64 (x3_1 + (((bt a0 x4_1) - 48) % 256))), (wrap64 (x4_1 + 1)), zV_, zV_, H', ⟨by have := HK1.out; omega⟩, by repeat (first | exact Drawn0.refl _ | apply Drawn0.step)⟩

/-! ### spec_tkHalves: function 142 -/
def spec_tkHalves.f (k : Nat) (a0 : ByteArray) : Option (Int × Int) := if 0 ≤ (wrap64 ((a0.size : Int) / 2)) then (if (wrap64 ((a0.size : Int) / 2)) ≤ (a0.size : Int) then ((spec_tkSum.f k (a0.extract 0 ((wrap64 ((a0.size : Int) / 2)) : Int).toNat)).bind fun t207 => ((spec_tkSum.f k (a0.extract ((wrap64 ((a0.size : Int) / 2)) : Int).toNat a0.size)).bind fun t208 => (some (t207, t208)))) else (none)) else (none)
theorem spec_tkHalves.mono : ∀ a0 k, LeO (spec_tkHalves.f k a0) (spec_tkHalves.f (k + 1) a0) := by
 intro a0 k
 unfold spec_tkHalves.f
 have m1_ := @spec_tkSum.mono
 exact zM_
set_option maxHeartbeats 8000000 in
set_option maxRecDepth 100000 in
theorem spec_tkHalves.calls (k : Nat) (a0 : ByteArray) (r1 : Int) (r2 : Int) (w : World) (h : spec_tkHalves.f k a0 = some (r1, r2)) :
 Calls Tryz.prog 142 #[.string a0] w fun e w' => e = .returned (.tuple #[.int .i64 r1, .int .i64 r2]) ∧ Drawn0 w w' := by
 unfold spec_tkHalves.f at h
 have H := h
 clear h
 obtain ⟨ji2, hji2⟩ : ∃ j_ : Int, (wrap64 ((a0.size : Int) / 2)) = j_ := ⟨_, rfl⟩
 replace H : (if 0 ≤ (ji2) then (if (ji2) ≤ (a0.size : Int) then ((spec_tkSum.f k (a0.extract 0 ((ji2) : Int).toNat)).bind fun t207 => ((spec_tkSum.f k (a0.extract ((ji2) : Int).toNat a0.size)).bind fun t208 => (some (t207, t208)))) else (none)) else (none)) = some (r1, r2) := by first | (rw [hji2] at H; exact H) | (simp only [hji2] at H ⊢; exact H)
 have hji2w : (IntKind.i64.wrap ((a0.size : Int) / 2)) = ji2 := (i64_w _).trans hji2
 replace H := gd_ H; obtain ⟨c3, H⟩ := H
 have c3b0 := eq_true c3
 have c3b1 : decide (0 ≤ (ji2)) = true := decide_eq_true c3
 clear c3
 replace H := gd_ H; obtain ⟨c4, H⟩ := H
 have c4b0 := eq_true c4
 have c4b1 : decide ((ji2) ≤ (a0.size : Int)) = true := decide_eq_true c4
 clear c4
 replace H := bd_ H; obtain ⟨t207, A5, H⟩ := H
 have c6b0 := eq_true (of_decide_eq_true zS_ : 0 ≤ (ji2))
 have c7b0 := eq_true (of_decide_eq_true zS_ : (ji2) ≤ (a0.size : Int))
 replace H := bd_ H; obtain ⟨t208, A8, H⟩ := H
 simp only [Option.some.injEq, Prod.mk.injEq] at H
 obtain ⟨rfl, rfl⟩ := H
 go_enter Tryz.func142, Tryz.ntmps142
 go_wp2_with (first | (go_at_call 168; (with_reducible refine (spec_tkSum.calls k (a0.extract 0 ((ji2) : Int).toNat) t207 _ A5.out).mono ?_); rintro e w' ⟨rfl, ⟨nd, rfl⟩⟩; (try first | exact ⟨rfl, _, World.drewN_drewN _ _ _⟩ | exact ⟨rfl, _, Eq.trans (World.drewN_drewN _ _ _) (congrArg (World.drewN _) (Nat.add_assoc _ _ _))⟩)) | (go_at_call 168; (with_reducible refine (spec_tkSum.calls k (a0.extract ((ji2) : Int).toNat a0.size) t208 _ A8.out).mono ?_); rintro e w' ⟨rfl, ⟨nd, rfl⟩⟩; (try first | exact ⟨rfl, _, World.drewN_drewN _ _ _⟩ | exact ⟨rfl, _, Eq.trans (World.drewN_drewN _ _ _) (congrArg (World.drewN _) (Nat.add_assoc _ _ _))⟩)))
 repeat (go_quiet (first | (go_at_call 168; (with_reducible refine (spec_tkSum.calls k (a0.extract 0 ((ji2) : Int).toNat) t207 _ A5.out).mono ?_); rintro e w' ⟨rfl, ⟨nd, rfl⟩⟩; (try first | exact ⟨rfl, _, World.drewN_drewN _ _ _⟩ | exact ⟨rfl, _, Eq.trans (World.drewN_drewN _ _ _) (congrArg (World.drewN _) (Nat.add_assoc _ _ _))⟩)) | (go_at_call 168; (with_reducible refine (spec_tkSum.calls k (a0.extract ((ji2) : Int).toNat a0.size) t208 _ A8.out).mono ?_); rintro e w' ⟨rfl, ⟨nd, rfl⟩⟩; (try first | exact ⟨rfl, _, World.drewN_drewN _ _ _⟩ | exact ⟨rfl, _, Eq.trans (World.drewN_drewN _ _ _) (congrArg (World.drewN _) (Nat.add_assoc _ _ _))⟩))); try go_wp2_with (first | (go_at_call 168; (with_reducible refine (spec_tkSum.calls k (a0.extract 0 ((ji2) : Int).toNat) t207 _ A5.out).mono ?_); rintro e w' ⟨rfl, ⟨nd, rfl⟩⟩; (try first | exact ⟨rfl, _, World.drewN_drewN _ _ _⟩ | exact ⟨rfl, _, Eq.trans (World.drewN_drewN _ _ _) (congrArg (World.drewN _) (Nat.add_assoc _ _ _))⟩)) | (go_at_call 168; (with_reducible refine (spec_tkSum.calls k (a0.extract ((ji2) : Int).toNat a0.size) t208 _ A8.out).mono ?_); rintro e w' ⟨rfl, ⟨nd, rfl⟩⟩; (try first | exact ⟨rfl, _, World.drewN_drewN _ _ _⟩ | exact ⟨rfl, _, Eq.trans (World.drewN_drewN _ _ _) (congrArg (World.drewN _) (Nat.add_assoc _ _ _))⟩))))
 go_ret2
 exact ⟨by first | rfl | (simp; done) | (simp only [← hji2] <;> (first | rfl | simp)) | (simp [*]; done), by repeat (first | exact Drawn0.refl _ | apply Drawn0.step)⟩

/-! ### spec_tkLucky: function 125 -/
def spec_tkLucky.f (k : Nat) (a0 : ByteArray) : Option (Bool) := (spec_tkHalves.f k a0).bind fun bt209 => (some (bt209.1 == bt209.2))
theorem spec_tkLucky.mono : ∀ a0 k, LeO (spec_tkLucky.f k a0) (spec_tkLucky.f (k + 1) a0) := by
 intro a0 k
 unfold spec_tkLucky.f
 have m1_ := @spec_tkHalves.mono
 exact zM_
set_option maxHeartbeats 8000000 in
set_option maxRecDepth 100000 in
theorem spec_tkLucky.calls (k : Nat) (a0 : ByteArray) (r : Bool) (w : World) (h : spec_tkLucky.f k a0 = some r) :
 Calls Tryz.prog 125 #[.string a0] w fun e w' => e = .returned (.bool r) ∧ Drawn0 w w' := by
 unfold spec_tkLucky.f at h
 have H := h
 clear h
 replace H := bd_ H; obtain ⟨⟨t209, t210⟩, A2, H⟩ := H
 dsimp only at H
 obtain rfl := Option.some.inj H
 go_enter Tryz.func125, Tryz.ntmps125
 go_wp2_with (first | ((with_reducible refine gc_ 142 rfl ?_); refine gL_ 7 Tryz.func142 #[.string a0] ?_; (with_reducible refine (spec_tkHalves.calls k a0 t209 t210 _ A2.out).mono ?_); rintro e w' ⟨rfl, ⟨nd, rfl⟩⟩; refine ⟨_, rfl, ?_⟩))
 go_ret
 exact ⟨by first | rfl | (simp; done) | (simp [*]; done), by repeat (first | exact Drawn0.refl _ | apply Drawn0.step)⟩

end Go.Proofs.YtebchgfjfobbbaaGreatDoor.PFnTicketsHidden

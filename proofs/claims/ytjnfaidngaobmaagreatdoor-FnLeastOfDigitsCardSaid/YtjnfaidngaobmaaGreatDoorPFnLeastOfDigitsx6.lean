-- Laid by this session's program gprint.py over the kit's print.
import Derived.Test.YtjnfaidngaobmaaGreatDoorZip
import Derived.Test.YtjnfaidngaobmaaGreatDoorPFnLeastOfDigitsx0
import Derived.Test.YtjnfaidngaobmaaGreatDoorPFnLeastOfDigitsx1
import Derived.Test.YtjnfaidngaobmaaGreatDoorPFnLeastOfDigitsx2
import Derived.Test.YtjnfaidngaobmaaGreatDoorPFnLeastOfDigitsx5
namespace Go.Proofs.YtjnfaidngaobmaaGreatDoor.PFnLeastOfDigits
open Go.RowKit Go.Proofs.YtjnfaidngaobmaaGreatDoorW.PrintWords Go.Proofs.YtjnfaidngaobmaaGreatDoorW.PrintLast Go.Proofs.YtjnfaidngaobmaaGreatDoorW.PrintMore
attribute [local go_sem] max2_int min2_int max_two min_two max_three min_three max_four min_four   -- for this text's walks alone
set_option linter.unusedVariables false
set_option linter.unusedSimpArgs false
theorem z6_0_ {p : Prop} (h : p := by (try simp only [List.map_toArray, List.map_cons, List.map_nil]); first | done | rfl | (simp only [List.length_drop, List.length_take]; rfl)) : p := h

/-! ### impl_ProductSteps: function 16 -/
def impl_ProductSteps.f (k : Nat) (a0 : Int) : Option (Int × Bool) := (impl_ProductEnd.f k a0).bind fun bt263 => (some (bt263.2.1, bt263.2.2))
theorem impl_ProductSteps.mono : ∀ a0 k, LeO (impl_ProductSteps.f k a0) (impl_ProductSteps.f (k + 1) a0) := by
 intro a0 k
 unfold impl_ProductSteps.f
 repeat' first
  | (with_reducible exact impl_ProductEnd.mono _ _)
  | (with_reducible exact LeO.refl _)
  | (with_reducible exact LeO.none _)
  | (with_reducible refine LeO.ite ?_ ?_)
  | (with_reducible refine LeO.bind ?_ (fun _ => ?_))
  | exact LeO.none _
  | refine LeO.ite ?_ ?_
  | refine LeO.bind ?_ (fun _ => ?_)
set_option maxHeartbeats 8000000 in
set_option maxRecDepth 100000 in
theorem impl_ProductSteps.calls (k : Nat) (a0 : Int) (r1 : Int) (r2 : Bool) (w : World) (hT : Shelf.TabOk w) (h : impl_ProductSteps.f k a0 = some (r1, r2)) :
 Calls Tryz.prog 16 #[.int .i64 a0] w fun e w' => e = .returned (.tuple #[.int .i64 r1, .bool r2]) ∧ Below w.heap.size w w' := by
 have HT := Aside0.mk hT
 clear hT
 have HB := Aside0.mk (Below.refl w.heap.size w)
 unfold impl_ProductSteps.f at h
 have H := h
 clear h
 replace H := bd_ H; obtain ⟨⟨t263, t264, t265⟩, A2, H⟩ := H
 dsimp only at H
 simp only [Option.some.injEq, Prod.mk.injEq] at H
 obtain ⟨rfl, rfl⟩ := H
 go_enter Tryz.func16, Tryz.ntmps16
 go_wp2_with (first | ((with_reducible refine gc_ 49 rfl ?_); refine gL_ 9 Tryz.func49 #[.int .i64 a0] ?_; (with_reducible refine (impl_ProductEnd.calls k a0 t263 t264 t265 _ ?side1 A2.out).mono ?_); (case side1 => exact Shelf.TabOk.below HT.out zB_); rintro e w3 ⟨rfl, hb⟩; refine ⟨_, rfl, ?_⟩; replace HB := Aside0.mk (below_step zB_ hb); (try clear hb)))
 go_ret2
 exact ⟨zR_, zB_⟩

/-! ### spec_ProductSteps: function 17 -/
def spec_ProductSteps.l0 : Nat → Int → Int → Option (Int × Bool)
 | 0, _, _ => none
 | k + 1, x0, x4 => if x0 > 9 then ((spec_leProduct.f k x0).bind fun t267 => (spec_ProductSteps.l0 k t267 (wrap64 (x4 + 1)))) else (some (x4, true))
def spec_ProductSteps.f (k : Nat) (a0 : Int) : Option (Int × Bool) := (spec_leNumber.f a0).bind fun t266 => (if t266 = true then (spec_ProductSteps.l0 k a0 0) else (some (0, false)))
theorem spec_ProductSteps.mono_l : ∀ k, (∀ y0 y1, LeO (spec_ProductSteps.l0 k y0 y1) (spec_ProductSteps.l0 (k + 1) y0 y1))
 | 0 => fun _ _ r h => by simp [spec_ProductSteps.l0] at h
 | k + 1 => by
  have ih0 := spec_ProductSteps.mono_l k
  intro y0 y1
  unfold spec_ProductSteps.l0
  repeat' first
  | (with_reducible exact ih0 _ _)
  | (with_reducible exact spec_leProduct.mono _ _)
  | (with_reducible exact LeO.refl _)
  | (with_reducible exact LeO.none _)
  | (with_reducible refine LeO.ite ?_ ?_)
  | (with_reducible refine LeO.bind ?_ (fun _ => ?_))
  | exact LeO.none _
  | refine LeO.ite ?_ ?_
  | refine LeO.bind ?_ (fun _ => ?_)
theorem spec_ProductSteps.mono : ∀ a0 k, LeO (spec_ProductSteps.f k a0) (spec_ProductSteps.f (k + 1) a0) := by
 intro a0 k
 have ih0 := spec_ProductSteps.mono_l k
 unfold spec_ProductSteps.f
 repeat' first
  | (with_reducible exact ih0 _ _)
  | (with_reducible exact spec_leProduct.mono _ _)
  | (with_reducible exact LeO.refl _)
  | (with_reducible exact LeO.none _)
  | (with_reducible refine LeO.ite ?_ ?_)
  | (with_reducible refine LeO.bind ?_ (fun _ => ?_))
  | exact LeO.none _
  | refine LeO.ite ?_ ?_
  | refine LeO.bind ?_ (fun _ => ?_)
set_option maxHeartbeats 8000000 in
set_option maxRecDepth 100000 in
theorem spec_ProductSteps.calls (k : Nat) (a0 : Int) (r1 : Int) (r2 : Bool) (w : World) (h : spec_ProductSteps.f k a0 = some (r1, r2)) :
 Calls Tryz.prog 17 #[.int .i64 a0] w fun e w' => e = .returned (.tuple #[.int .i64 r1, .bool r2]) ∧ Below w.heap.size w w' := by
 have HB := Aside0.mk (Below.refl w.heap.size w)
 unfold spec_ProductSteps.f at h
 have H := h
 clear h
 replace H := bd_ H; obtain ⟨t266, A2, H⟩ := H
 by_cases c3 : t266 = true
 · subst c3
   rw [if_pos rfl] at H
   have H' := Aside0.mk H
   clear H
   go_enter Tryz.func17, Tryz.ntmps17
   go_wp2_with (first | ((with_reducible refine gc_ 38 rfl ?_); refine gL_ 6 Tryz.func38 #[.int .i64 a0] ?_; (with_reducible refine (spec_leNumber.calls a0 true _ A2.out).mono ?_); rintro e w' ⟨rfl, ⟨nd, rfl⟩⟩; refine ⟨_, rfl, ?_⟩))
   go_loopg [0, 4] k (fun kq v0 v4 w' => ∃ (x0_1 : Int) (x4_1 : Int), v0 = .int .i64 x0_1 ∧ v4 = .int .i64 x4_1 ∧ Aside0 (spec_ProductSteps.l0 kq x0_1 x4_1 = some (r1, r2)) ∧ Aside0 (kq ≤ k) ∧ Aside0 (Below w.heap.size w w'))
   case atStart => exact ⟨(a0), (0), zV_, zV_, H', ⟨Nat.le_refl _⟩, ⟨zB_⟩⟩
   case round =>
    clear H'
    (try clear c1);(try clear p2);(try clear c3)
    obtain ⟨x0_1, x4_1, rfl, rfl, HA, HK1, HB⟩ := hrel
    cases gk with
    | zero => exact absurd HA.out (by simp [spec_ProductSteps.l0])
    | succ k1 =>
     have H := HA.out
     clear HA
     simp only [spec_ProductSteps.l0] at H
     by_cases c4 : x0_1 > 9
     · rw [if_pos c4] at H
       have c4b0 : decide (9 < x0_1) = true := decide_eq_true c4
       clear c4
       replace H := bd_ H; obtain ⟨t267, A5, H⟩ := H
       have H' := Aside0.mk H
       clear H
       go_wp2_with (first | ((with_reducible refine gc_ 48 rfl ?_); refine gL_ 11 Tryz.func48 #[.int .i64 x0_1] ?_; (with_reducible refine (spec_leProduct.calls k1 x0_1 t267 _ A5.out).mono ?_); rintro e w6 ⟨rfl, hb⟩; refine ⟨_, rfl, ?_⟩; replace HB := Aside0.mk (below_step zB_ hb); (try clear hb)))
       go_roundg k1
       case measure => have := HK1.out; omega
       case rel => exact ⟨(t267), (wrap64 (x4_1 + 1)), zV_, zV_, H', ⟨by have := HK1.out; omega⟩, ⟨zB_⟩⟩
     rw [if_neg c4] at H
     have c4b0 : decide (9 < x0_1) = false := decide_eq_false c4
     clear c4
     simp only [Option.some.injEq, Prod.mk.injEq] at H
     obtain ⟨rfl, rfl⟩ := H
     go_wp2
     go_ret2
     exact ⟨zR_, zB_⟩
 replace H := bf_ c3 H; obtain ⟨rfl, H⟩ := H
 simp only [Option.some.injEq, Prod.mk.injEq] at H
 obtain ⟨rfl, rfl⟩ := H
 go_enter Tryz.func17, Tryz.ntmps17
 go_wp2_with (first | ((with_reducible refine gc_ 38 rfl ?_); refine gL_ 6 Tryz.func38 #[.int .i64 a0] ?_; (with_reducible refine (spec_leNumber.calls a0 false _ A2.out).mono ?_); rintro e w' ⟨rfl, ⟨nd, rfl⟩⟩; refine ⟨_, rfl, ?_⟩))
 go_ret2
 exact ⟨zR_, zB_⟩

/-! ### laws_iDigits: function 18 -/
def laws_iDigits.inc (l : List Int) (d : Int) : List Int := l.set d.toNat (wrap64 (l[d.toNat]?.getD 0 + 1))
def laws_iDigits.l0 : Nat → List Int → Int → Option (List Int)
 | 0, _, _ => none
 | k + 1, l, n => if 0 < n then laws_iDigits.l0 k (laws_iDigits.inc l (Int.tmod n 10)) (wrap64 (Int.tdiv n 10)) else some l
def laws_iDigits.f (k : Nat) (n : Int) : Option (List Int) := if 0 ≤ n ∧ n ≤ 9223372036854775807 then laws_iDigits.l0 k (laws_iDigits.inc [0, 0, 0, 0, 0, 0, 0, 0, 0, 0] (Int.tmod n 10)) (wrap64 (Int.tdiv n 10)) else none
theorem laws_iDigits.mono_l : ∀ k l n, LeO (laws_iDigits.l0 k l n) (laws_iDigits.l0 (k + 1) l n)
 | 0 => fun _ _ r h => by simp [laws_iDigits.l0] at h
 | k + 1 => fun l n => by
  have ih := laws_iDigits.mono_l k
  unfold laws_iDigits.l0
  exact LeO.ite (ih _ _) (LeO.refl _)
theorem laws_iDigits.mono : ∀ n k, LeO (laws_iDigits.f k n) (laws_iDigits.f (k + 1) n) := by
 intro n k
 unfold laws_iDigits.f
 exact LeO.ite (laws_iDigits.mono_l _ _ _) (LeO.none _)
theorem laws_iDigits.set_ (l : List Int) (i : Nat) (v : Int) : (l.map (Value.int .i64)).toArray.setIfInBounds i (.int .i64 v) = ((l.set i v).map (Value.int .i64)).toArray := by
 simp [List.map_set]
theorem laws_iDigits.len_ (l : List Int) (i : Nat) (h : i < l.length) : (l.map (Value.int .i64)).toArray[i]? = some (.int .i64 (l[i]?.getD 0)) := by
 simp [h]
theorem laws_iDigits.inc_len (l : List Int) (d : Int) : (laws_iDigits.inc l d).length = l.length := by unfold laws_iDigits.inc; rw [List.length_set]
theorem laws_iDigits.quo (n : Int) (h : 0 ≤ n ∧ n ≤ 9223372036854775807) : wrap64 (Int.tdiv n 10) = Int.tdiv n 10 ∧ 0 ≤ Int.tdiv n 10 ∧ Int.tdiv n 10 ≤ 9223372036854775807 := by rw [Int.tdiv_eq_ediv_of_nonneg h.1]; unfold wrap64; omega
theorem laws_iDigits.ten (l : List Int) (h : l.length = 10) : ∃ e0 e1 e2 e3 e4 e5 e6 e7 e8 e9, l = [e0, e1, e2, e3, e4, e5, e6, e7, e8, e9] := by
 match l, h with
 | [e0, e1, e2, e3, e4, e5, e6, e7, e8, e9], _ => exact ⟨e0, e1, e2, e3, e4, e5, e6, e7, e8, e9, rfl⟩
theorem laws_iDigits.dig (n : Int) (h : 0 ≤ n) : 0 ≤ Int.tmod n 10 ∧ Int.tmod n 10 < 10 := by rw [Int.tmod_eq_emod_of_nonneg h]; omega
set_option maxHeartbeats 8000000 in
set_option maxRecDepth 100000 in
theorem laws_iDigits.calls (k : Nat) (a0 : Int) (r : List Int) (w : World) (h : laws_iDigits.f k a0 = some r) :
 Calls Tryz.prog 18 #[.int .i64 a0] w fun e w' => e = .returned (.agg (r.map (Value.int .i64)).toArray) ∧ Below w.heap.size w w' := by
 unfold laws_iDigits.f at h
 by_cases h0 : 0 ≤ a0 ∧ a0 ≤ 9223372036854775807
 rotate_left
 · exact none_ (if_neg h0) h
 rw [if_pos h0] at h
 obtain ⟨hd0, hd1⟩ := laws_iDigits.dig a0 h0.1
 have HB := Aside0.mk (Below.refl w.heap.size w)
 have H' := Aside0.mk h
 obtain ⟨L0, hL0⟩ : ∃ L : List Int, L = [0, 0, 0, 0, 0, 0, 0, 0, 0, 0] := ⟨_, rfl⟩
 have hL0l : L0.length = 10 := by rw [hL0]; rfl
 have HL0 := Aside0.mk hL0
 have HLL := Aside0.mk hL0l
 rw [← hL0] at H'
 clear hL0 hL0l
 have HD0 := Aside0.mk hd0
 have H0 := Aside0.mk h0
 clear h h0
 go_enter Tryz.func18, Tryz.ntmps18
 go_wp2_with (first | ((with_reducible refine gate_dst (N := 2) rfl ?_); refine box_event ?hg (N := 2) ?hd (cs := #[.int .i64 0, .int .i64 0, .int .i64 0, .int .i64 0, .int .i64 0, .int .i64 0, .int .i64 0, .int .i64 0, .int .i64 0, .int .i64 0]) (t := 27) ?hr ?_; (case hd => rfl); (case hg => rfl); (case hr => first | (go_simp; done) | (go_simp; rfl)); intro g2 hg w2 hbox hb; have B2 := Aside0.mk hbox; have HG2 := Aside0.mk hg; have HB2 := Aside0.mk (below_step HB.out hb); clear hg hbox hb) | ((with_reducible refine gate_dst (N := 3) rfl ?_); refine box_event ?hg (N := 3) ?hd (cs := #[.int .i64 0, .int .i64 0, .int .i64 0, .int .i64 0, .int .i64 0, .int .i64 0, .int .i64 0, .int .i64 0, .int .i64 0, .int .i64 0]) (t := 27) ?hr ?_; (case hd => rfl); (case hg => rfl); (case hr => first | (go_simp; done) | (go_simp; rfl)); intro g3 hg w3 hbox hb; have B3 := Aside0.mk (show w3.heap[g3]? = some (.cells (L0.map (Value.int .i64)).toArray 27 (0, 0)) by rw [HL0.out]; exact hbox); have B23 := Aside0.mk (blk_below B2.out hb); have HG3 := Aside0.mk hg; have HB3 := Aside0.mk (below_step HB2.out hb); have hc3 := (blk_cell B3.out (Int.tmod a0 10).toNat).trans (laws_iDigits.len_ L0 _ (by have := HLL.out; omega)); have hf3 := blk_frozen hbox (Int.tmod a0 10).toNat; clear hg hbox hb))
 have B3n := Aside0.mk (blk_put B3.out (Int.tmod a0 10).toNat (.int .i64 (wrap64 (L0[(Int.tmod a0 10).toNat]?.getD 0 + 1))) rfl)
 have B2n := Aside0.mk (blk_far B23.out (p := ⟨g3, (Int.tmod a0 10).toNat, none⟩) (by intro e; have h1 := HG3.out; have h2 := blk_lt B2.out; simp only at e; omega) (.int .i64 (wrap64 (L0[(Int.tmod a0 10).toNat]?.getD 0 + 1))))
 have HBn := Aside0.mk (below_set (j := (Int.tmod a0 10).toNat) (v := .int .i64 (wrap64 (L0[(Int.tmod a0 10).toNat]?.getD 0 + 1))) HB3.out (show w.heap.size ≤ g3 by rw [HG3.out]; exact HB2.out.size))
 rw [laws_iDigits.set_] at B3n
 have B3n := Aside0.mk (show _ = some (Obj.cells ((laws_iDigits.inc L0 (Int.tmod a0 10)).map (Value.int .i64)).toArray 27 (0, 0)) from B3n.out)
 have HG23 : Aside0 (g2 ≠ g3) := ⟨by intro e; have h1 := HG3.out; have h2 := blk_lt B2.out; omega⟩
 have HL3 := Aside0.mk (show w.heap.size ≤ g3 by rw [HG3.out]; exact HB2.out.size)
 have HL2 := Aside0.mk (show w.heap.size ≤ g2 by rw [HG2.out]; exact Nat.le_refl _)
 have HNL := Aside0.mk ((laws_iDigits.inc_len L0 (Int.tmod a0 10)).trans HLL.out)
 have HQ := Aside0.mk (laws_iDigits.quo a0 H0.out)
 generalize w3.setCell ⟨g3, (Int.tmod a0 10).toNat, none⟩ (.int .i64 (wrap64 (L0[(Int.tmod a0 10).toNat]?.getD 0 + 1))) = w4 at B3n B2n HBn ⊢
 clear hc3 hf3 B3 B23 HB3 B2 HB2 hd0 hd1 HG3 HG2 HB
 go_loopg [0] k (fun kq v0 w' => ∃ (l : List Int) (n : Int), v0 = .int .i64 n ∧ Aside0 (0 ≤ n ∧ n ≤ 9223372036854775807) ∧ Aside0 (l.length = 10) ∧ Aside0 (laws_iDigits.l0 kq l n = some r) ∧ Aside0 (w'.heap[g3]? = some (.cells (l.map (Value.int .i64)).toArray 27 (0, 0))) ∧ Aside0 (w'.heap[g2]? = some (.cells #[.int .i64 0, .int .i64 0, .int .i64 0, .int .i64 0, .int .i64 0, .int .i64 0, .int .i64 0, .int .i64 0, .int .i64 0, .int .i64 0] 27 (0, 0))) ∧ Aside0 (Below w.heap.size w w'))
 case atStart => exact ⟨laws_iDigits.inc L0 (Int.tmod a0 10), _, rfl, ⟨by rw [HQ.out.1]; exact HQ.out.2⟩, HNL, H', B3n, B2n, HBn⟩
 case round =>
  clear HNL H' B3n B2n HBn HQ HL0 HLL
  obtain ⟨l, n, rfl, HN, HLL, HA, B3, B2, HB⟩ := hrel
  cases gk with
  | zero => exact absurd HA.out (by simp [laws_iDigits.l0])
  | succ k1 =>
   have H := HA.out
   clear HA
   simp only [laws_iDigits.l0] at H
   obtain ⟨hd0, hd1⟩ := laws_iDigits.dig n HN.out.1
   by_cases c : 0 < n
   · rw [if_pos c] at H
     have c1 : decide (0 < n) = true := decide_eq_true c
     have c2 : decide (n > 0) = true := decide_eq_true c
     have HA := Aside0.mk H
     clear H c
     have hc3 := (blk_cell B3.out (Int.tmod n 10).toNat).trans (laws_iDigits.len_ l _ (by have := HLL.out; omega))
     have hf3 := blk_frozen B3.out (Int.tmod n 10).toNat
     have HNQ := Aside0.mk (laws_iDigits.quo n HN.out)
     have B3n := Aside0.mk (blk_put B3.out (Int.tmod n 10).toNat (.int .i64 (wrap64 (l[(Int.tmod n 10).toNat]?.getD 0 + 1))) rfl)
     have B2n := Aside0.mk (blk_far B2.out (p := ⟨g3, (Int.tmod n 10).toNat, none⟩) HG23.out (.int .i64 (wrap64 (l[(Int.tmod n 10).toNat]?.getD 0 + 1))))
     have HBn := Aside0.mk (below_set (j := (Int.tmod n 10).toNat) (v := .int .i64 (wrap64 (l[(Int.tmod n 10).toNat]?.getD 0 + 1))) HB.out HL3.out)
     rw [laws_iDigits.set_] at B3n
     have B3n := Aside0.mk (show _ = some (Obj.cells ((laws_iDigits.inc l (Int.tmod n 10)).map (Value.int .i64)).toArray 27 (0, 0)) from B3n.out)
     have HNL := Aside0.mk ((laws_iDigits.inc_len l (Int.tmod n 10)).trans HLL.out)
     go_wp2
     go_roundg k1
     case measure => omega
     case rel => exact ⟨laws_iDigits.inc l (Int.tmod n 10), _, rfl, ⟨by rw [HNQ.out.1]; exact HNQ.out.2⟩, HNL, HA, B3n, B2n, HBn⟩
   rw [if_neg c] at H
   have c1 : decide (0 < n) = false := decide_eq_false c
   have c2 : decide (n > 0) = false := decide_eq_false c
   obtain rfl := Option.some.inj H
   clear H c
   obtain ⟨e0, e1, e2, e3, e4, e5, e6, e7, e8, e9, rfl⟩ : ∃ e0 e1 e2 e3 e4 e5 e6 e7 e8 e9, l = [e0, e1, e2, e3, e4, e5, e6, e7, e8, e9] := laws_iDigits.ten l HLL.out
   have HN23 := HG23.out
   have hc0 := (blk_cell B3.out 0).trans rfl
   have hd0_ := (blk_cell B2.out 0).trans rfl
   have hf0 := blk_frozen B2.out 0
   have hc1 := (blk_cell B3.out 1).trans rfl
   have hd1_ := (blk_cell B2.out 1).trans rfl
   have hf1 := blk_frozen B2.out 1
   have hc2 := (blk_cell B3.out 2).trans rfl
   have hd2_ := (blk_cell B2.out 2).trans rfl
   have hf2 := blk_frozen B2.out 2
   have hc3 := (blk_cell B3.out 3).trans rfl
   have hd3_ := (blk_cell B2.out 3).trans rfl
   have hf3 := blk_frozen B2.out 3
   have hc4 := (blk_cell B3.out 4).trans rfl
   have hd4_ := (blk_cell B2.out 4).trans rfl
   have hf4 := blk_frozen B2.out 4
   have hc5 := (blk_cell B3.out 5).trans rfl
   have hd5_ := (blk_cell B2.out 5).trans rfl
   have hf5 := blk_frozen B2.out 5
   have hc6 := (blk_cell B3.out 6).trans rfl
   have hd6_ := (blk_cell B2.out 6).trans rfl
   have hf6 := blk_frozen B2.out 6
   have hc7 := (blk_cell B3.out 7).trans rfl
   have hd7_ := (blk_cell B2.out 7).trans rfl
   have hf7 := blk_frozen B2.out 7
   have hc8 := (blk_cell B3.out 8).trans rfl
   have hd8_ := (blk_cell B2.out 8).trans rfl
   have hf8 := blk_frozen B2.out 8
   have hc9 := (blk_cell B3.out 9).trans rfl
   have hd9_ := (blk_cell B2.out 9).trans rfl
   have hf9 := blk_frozen B2.out 9
   go_wp2
   have p0_ := blk_put B2.out 0 (.int .i64 e0) rfl
   simp only [List.setIfInBounds_toArray, List.set_cons_zero, List.set_cons_succ] at p0_
   have p1_ := blk_put p0_ 1 (.int .i64 e1) rfl
   simp only [List.setIfInBounds_toArray, List.set_cons_zero, List.set_cons_succ] at p1_
   have p2_ := blk_put p1_ 2 (.int .i64 e2) rfl
   simp only [List.setIfInBounds_toArray, List.set_cons_zero, List.set_cons_succ] at p2_
   have p3_ := blk_put p2_ 3 (.int .i64 e3) rfl
   simp only [List.setIfInBounds_toArray, List.set_cons_zero, List.set_cons_succ] at p3_
   have p4_ := blk_put p3_ 4 (.int .i64 e4) rfl
   simp only [List.setIfInBounds_toArray, List.set_cons_zero, List.set_cons_succ] at p4_
   have p5_ := blk_put p4_ 5 (.int .i64 e5) rfl
   simp only [List.setIfInBounds_toArray, List.set_cons_zero, List.set_cons_succ] at p5_
   have p6_ := blk_put p5_ 6 (.int .i64 e6) rfl
   simp only [List.setIfInBounds_toArray, List.set_cons_zero, List.set_cons_succ] at p6_
   have p7_ := blk_put p6_ 7 (.int .i64 e7) rfl
   simp only [List.setIfInBounds_toArray, List.set_cons_zero, List.set_cons_succ] at p7_
   have p8_ := blk_put p7_ 8 (.int .i64 e8) rfl
   simp only [List.setIfInBounds_toArray, List.set_cons_zero, List.set_cons_succ] at p8_
   have p9_ := blk_put p8_ 9 (.int .i64 e9) rfl
   simp only [List.setIfInBounds_toArray, List.set_cons_zero, List.set_cons_succ] at p9_
   have q0_ := below_set (g := g2) (j := 0) (v := .int .i64 e0) HB.out HL2.out
   have q1_ := below_set (g := g2) (j := 1) (v := .int .i64 e1) q0_ HL2.out
   have q2_ := below_set (g := g2) (j := 2) (v := .int .i64 e2) q1_ HL2.out
   have q3_ := below_set (g := g2) (j := 3) (v := .int .i64 e3) q2_ HL2.out
   have q4_ := below_set (g := g2) (j := 4) (v := .int .i64 e4) q3_ HL2.out
   have q5_ := below_set (g := g2) (j := 5) (v := .int .i64 e5) q4_ HL2.out
   have q6_ := below_set (g := g2) (j := 6) (v := .int .i64 e6) q5_ HL2.out
   have q7_ := below_set (g := g2) (j := 7) (v := .int .i64 e7) q6_ HL2.out
   have q8_ := below_set (g := g2) (j := 8) (v := .int .i64 e8) q7_ HL2.out
   have q9_ := below_set (g := g2) (j := 9) (v := .int .i64 e9) q8_ HL2.out
   refine bodyPost_ret (results_cell_row rfl _ _ g2 27 #[.int .i64 e0, .int .i64 e1, .int .i64 e2, .int .i64 e3, .int .i64 e4, .int .i64 e5, .int .i64 e6, .int .i64 e7, .int .i64 e8, .int .i64 e9] (0, 0) _ rfl p9_ Tryz.underlying27 rfl (by kernel_rfl)) rfl ?_
   exact ⟨rfl, q9_⟩
theorem laws_iDigits.allR (xs ys : List Int) (h : xs.length = ys.length) : (List.range xs.length).all (fun i => xs.getD i 0 == ys.getD i 0) = (xs == ys) := by
 rw [Bool.eq_iff_iff, List.all_eq_true, beq_iff_eq]
 constructor
 · intro hh
   apply List.ext_getElem h
   intro i h1 h2
   have := hh i (List.mem_range.mpr h1)
   rw [beq_iff_eq, List.getD_eq_getElem?_getD, List.getD_eq_getElem?_getD, List.getElem?_eq_getElem h1, List.getElem?_eq_getElem h2] at this
   exact this
 rintro rfl i _
 exact beq_self_eq_true _
theorem laws_iDigits.eqIn (d : Nat) (xs ys : List Int) (hx : xs.length = 10) (hy : ys.length = 10) (w : World) : (Op.equalIn (d + 2) 27 (.agg (xs.map (Value.int .i64)).toArray) (.agg (ys.map (Value.int .i64)).toArray)).run Tryz.prog w = .ok (xs == ys) w := by
 have ht := Tryz.underlying27
 have he := Tryz.underlying3
 have hsz : ∀ w, (sizeOf 3).run Tryz.prog w = .ok 1 w := by
  intro w
  have hi : (Tryz.prog.info? 3).map (fun i => (i.zero, i.size, i.bytes)) = some (some (.int .i64 0), 1, 8) := by kernel_rfl
  obtain ⟨i, hi, hz⟩ := Option.map_eq_some_iff.1 hi
  simp only [Prod.mk.injEq] at hz
  simp [sizeOf, typeInfo, hi, hz.2.1]
 rw [← laws_iDigits.allR xs ys (hx.trans hy.symm), hx, List.range_eq_range', Op.equalIn]
 simp only [Sem.run_bind, run_underlying ht, Result.andThen_ok, hsz, Std.Legacy.Range.forIn_eq_forIn_range', Std.Legacy.Range.size, Nat.sub_zero, Nat.add_sub_cancel, Nat.div_one]
 have hl : ∀ i ∈ List.range' 0 10 1, i < 10 := fun i hi => by simpa using (List.mem_range'_1.1 hi).2
 generalize List.range' 0 10 1 = l at hl ⊢
 induction l with
 | nil => simp
 | cons i l ih =>
  have hi : i < 10 := hl i (by simp)
  have px : (part 3 (xs.map (Value.int .i64)).toArray (i * 1)).run Tryz.prog w = .ok (.int .i64 (xs.getD i 0)) w := by
   simp [part, isAgg, run_underlying he, List.getD, List.getElem?_eq_getElem (show i < xs.length by omega)]
  have py : (part 3 (ys.map (Value.int .i64)).toArray (i * 1)).run Tryz.prog w = .ok (.int .i64 (ys.getD i 0)) w := by
   simp [part, isAgg, run_underlying he, List.getD, List.getElem?_eq_getElem (show i < ys.length by omega)]
  have pe : (Op.equalIn (d + 1) 3 (.int .i64 (xs.getD i 0)) (.int .i64 (ys.getD i 0))).run Tryz.prog w = .ok (xs.getD i 0 == ys.getD i 0) w := by
   rw [run_equalIn_int w d 3 .i64 .i64 _ _ he]
  simp only [List.forIn_cons, Sem.run_bind, px, py, pe, Result.andThen_ok, List.all_cons]
  cases hb : (xs.getD i 0 == ys.getD i 0)
  · simp
  simp only [Bool.not_true, Bool.false_eq_true, if_false, Sem.run_pure, Result.andThen_ok, Bool.true_and]
  exact ih fun j hj => hl j (by simp [hj])
theorem laws_iDigits.neq_ (a b : List Int) (ha : a.length = 10) (hb : b.length = 10) (w : World) : (binOp .neq 27 (.agg (a.map (Value.int .i64)).toArray) (.agg (b.map (Value.int .i64)).toArray)).run Tryz.prog w = .ok (.bool (a != b)) w := by
 have h := laws_iDigits.eqIn 9998 a b ha hb w
 rw [run_neq_struct, h]; rfl
theorem laws_iDigits.l0_len : ∀ (k : Nat) (l r : List Int) (n : Int), laws_iDigits.l0 k l n = some r → r.length = l.length := by
 intro k
 induction k with
 | zero => intro l r n h; simp [laws_iDigits.l0] at h
 | succ k ih =>
  intro l r n h
  simp only [laws_iDigits.l0] at h
  split at h
  · rw [ih _ _ _ h, laws_iDigits.inc_len]
  rw [Option.some.inj h]
theorem laws_iDigits.len {k : Nat} {n : Int} {r : List Int} (h : laws_iDigits.f k n = some r) : r.length = 10 := by
 unfold laws_iDigits.f at h
 split at h
 · rw [laws_iDigits.l0_len _ _ _ _ h, laws_iDigits.inc_len]; rfl
 cases h

/-! ### spec_l1Cur_one: function 50 -/
def spec_l1Cur_one.f (s0_0 : List Int) (s0_1 : Int) (s0_2 : Int) (a1 : Int) : Option (Bool × Int × Int) := (spec_l1Cur_pick.f s0_0 s0_1 s0_2 a1).bind fun bt268 => (some ((bt268.1 == 0), bt268.2.1, bt268.2.2))
set_option maxHeartbeats 8000000 in
set_option maxRecDepth 100000 in
theorem spec_l1Cur_one.calls (g : Nat) (s0_0 : List Int) (s0_1 : Int) (s0_2 : Int) (a1 : Int) (r1 : Bool) (r2 : Int) (r3 : Int) (w0 w : World) (hI : IsS55 w0 w g s0_0 s0_1 s0_2) (hB : Below w0.heap.size w0 w) (h : spec_l1Cur_one.f s0_0 s0_1 s0_2 a1 = some (r1, r2, r3)) :
 Calls Tryz.prog 50 #[.pointer (some ⟨g, 0, none⟩), .int .i64 a1] w fun e w' => e = .returned (.bool r1) ∧ IsS55 w0 w' g s0_0 r2 r3 ∧ Below w0.heap.size w0 w' ∧ KeepBut w w' g none := by
 have HI0 := Aside0.mk hI
 have HK := Aside0.mk (KeepBut.refl w g none)
 have HL := Aside0.mk hB.size
 clear hI
 have HW0 := Aside0.mk hB.size
 have HB := Aside0.mk hB
 clear hB
 unfold spec_l1Cur_one.f at h
 have H := h
 clear h
 replace H := bd_ H; obtain ⟨⟨t268, t269, t270⟩, A3, H⟩ := H
 dsimp only at H
 simp only [Option.some.injEq, Prod.mk.injEq] at H
 obtain ⟨rfl, rfl, rfl⟩ := H
 go_enter Tryz.func50, Tryz.ntmps50
 go_wp2_with (first | ((with_reducible refine gc_ 52 rfl ?_); refine gL_ 7 Tryz.func52 #[.pointer (some ⟨g, 0, none⟩), .int .i64 a1] ?_; (with_reducible refine (spec_l1Cur_pick.calls g s0_0 s0_1 s0_2 a1 t268 t269 t270 w0 _ ?side1 ?side2 A3.out).mono ?_); (case side1 => repeat (first | (with_reducible first | exact HI0.out | apply IsS55.alloc | apply IsS55.drewN | apply IsS55.drew | apply IsS55.set_1 | apply IsS55.set_2) | exact HI0.out)); (case side2 => repeat (first | (with_reducible first | exact HB.out | apply below_alloc | apply pw_below_drewN | apply below_drew1 | refine below_set ?_ (IsS55.ge HI0.out)) | exact HB.out)); rintro e w4 ⟨rfl, hi, hb, hk⟩; refine ⟨_, rfl, ?_⟩; replace HK := Aside0.mk (KeepBut.trans (by repeat (first | (with_reducible first | exact HK.out | apply KeepBut.set_ | apply keep_drewN | apply keep_drew | apply keep_alloc) | exact HK.out)) hk (.inl rfl)); replace HB := Aside0.mk (hb); replace HI0 := Aside0.mk (hi); (try clear hb); (try clear hk); (try clear hi)))
 go_ret
 exact ⟨zR_, by repeat (first | (with_reducible first | exact HI0.out | apply IsS55.alloc | apply IsS55.drewN | apply IsS55.drew | apply IsS55.set_1 | apply IsS55.set_2) | exact HI0.out), by repeat (first | (with_reducible first | exact HB.out | apply below_alloc | apply pw_below_drewN | apply below_drew1 | refine below_set ?_ (IsS55.ge HI0.out)) | exact HB.out), by repeat (first | (with_reducible first | exact HK.out | apply KeepBut.set_ | apply keep_drewN | apply keep_drew | apply keep_alloc) | exact HK.out)⟩

/-! ### spec_DrawLeastWithProduct: function 19 -/
def spec_DrawLeastWithProduct.l0 : Nat → Int → Int → List Int → Int → Int → Option (Int)
 | 0, _, _, _, _, _ => none
 | k + 1, x4, x5, x272000, x272001, x272002 => if x5 > 0 then ((spec_l1Cur_pick.f x272000 x272001 x272002 9).bind fun bt284 => (spec_DrawLeastWithProduct.l0 k (wrap64 (x4 * (wrap64 (1 + bt284.1)))) (wrap64 (x5 - 1)) x272000 bt284.2.1 bt284.2.2)) else (some x4)
def spec_DrawLeastWithProduct.f (k : Nat) (l0 : List Int) : Option (Int) := (spec_l1Cur_one.f l0 0 0 6).bind fun bt272 => (if bt272.1 = true then ((spec_l1Cur_among.f l0 bt272.2.1 bt272.2.2 (([(-1), 0, 1, 11, 1000000000000, 1000000000001] : List Int))).bind fun bt278 => (some bt278.1)) else ((spec_l1Cur_pick.f l0 bt272.2.1 bt272.2.2 9).bind fun bt281 => (spec_DrawLeastWithProduct.l0 k 1 bt281.1 l0 bt281.2.1 bt281.2.2)))
theorem spec_DrawLeastWithProduct.mono_l : ∀ k, (∀ y0 y1 y2 y3 y4, LeO (spec_DrawLeastWithProduct.l0 k y0 y1 y2 y3 y4) (spec_DrawLeastWithProduct.l0 (k + 1) y0 y1 y2 y3 y4))
 | 0 => fun _ _ _ _ _ r h => by simp [spec_DrawLeastWithProduct.l0] at h
 | k + 1 => by
  have ih0 := spec_DrawLeastWithProduct.mono_l k
  intro y0 y1 y2 y3 y4
  unfold spec_DrawLeastWithProduct.l0
  repeat' first
  | (with_reducible exact ih0 _ _ _ _ _)
  | (with_reducible exact LeO.refl _)
  | (with_reducible exact LeO.none _)
  | (with_reducible refine LeO.ite ?_ ?_)
  | (with_reducible refine LeO.bind ?_ (fun _ => ?_))
  | exact LeO.none _
  | refine LeO.ite ?_ ?_
  | refine LeO.bind ?_ (fun _ => ?_)
theorem spec_DrawLeastWithProduct.mono : ∀ a0 k, LeO (spec_DrawLeastWithProduct.f k a0) (spec_DrawLeastWithProduct.f (k + 1) a0) := by
 intro a0 k
 have ih0 := spec_DrawLeastWithProduct.mono_l k
 unfold spec_DrawLeastWithProduct.f
 repeat' first
  | (with_reducible exact ih0 _ _ _ _ _)
  | (with_reducible exact LeO.refl _)
  | (with_reducible exact LeO.none _)
  | (with_reducible refine LeO.ite ?_ ?_)
  | (with_reducible refine LeO.bind ?_ (fun _ => ?_))
  | exact LeO.none _
  | refine LeO.ite ?_ ?_
  | refine LeO.bind ?_ (fun _ => ?_)
set_option maxHeartbeats 8000000 in
set_option maxRecDepth 100000 in
theorem spec_DrawLeastWithProduct.calls (k : Nat) (A0 : Option Addr) (c0 : Nat) (l0 : List Int) (r : Int) (w : World) (hr0 : Kd.C (Kd.int .u8) w A0 l0.length l0) (hc0 : l0.length ≤ c0) (h : spec_DrawLeastWithProduct.f k l0 = some r) :
 Calls Tryz.prog 19 #[.slice A0 l0.length c0] w fun e w' => e = .returned (.int .i64 r) ∧ Below w.heap.size w w' := by
 have hu55 := Tryz.underlying55
 have HR0 := Aside0.mk hr0
 have HC0 := Aside0.mk hc0
 clear hr0 hc0
 have HB := Aside0.mk (Below.refl w.heap.size w)
 unfold spec_DrawLeastWithProduct.f at h
 have H := h
 clear h
 replace H := bd_ H; obtain ⟨⟨t272, t273, t274⟩, A2, H⟩ := H
 dsimp only at H
 by_cases c3 : t272 = true
 · subst c3
   rw [if_pos rfl] at H
   obtain ⟨y275, hy275⟩ : ∃ y_ : List Int, y_ = (([(-1), 0, 1, 11, 1000000000000, 1000000000001] : List Int)) := ⟨_, rfl⟩
   replace H : ((spec_l1Cur_among.f l0 t273 t274 y275).bind fun bt278 => (some bt278.1)) = some r := by first | (rw [hy275]; with_reducible exact H) | (have H2_ := (Option.bind_some _ _).symm.trans H; rw [hy275]; with_reducible exact H2_) | (have H2_ := (Option.bind_some _ _).symm.trans H; with_reducible exact H2_) | with_reducible exact H | (rw [hy275]; exact H) | exact H
   have Ny275 := Aside0.mk hy275
   clear hy275
   replace H := bd_ H; obtain ⟨⟨t278, t279, t280⟩, A4, H⟩ := H
   dsimp only at H
   obtain rfl := Option.some.inj H
   go_enter Tryz.func19, Tryz.ntmps19
   go_wp2_with (first | ((with_reducible refine gate_dst (N := 8) rfl ?_); refine box_event ?hg (N := 8) ?hd (cs := #[.slice A0 l0.length c0, .int .i64 0, .int .u64 0]) (t := 55) ?hr ?_; (case hd => rfl); (case hg => rfl); (case hr => first | (go_simp; done) | (go_simp; rfl)); intro gb271 hg w5 hbox hb; have n0_ := Aside0.mk (below_step zB_ hb); have n1_ := Aside0.mk ((⟨_, _, hbox, (by rw [hg]; exact (below_size zB_) : w.heap.size ≤ gb271), HR0.out⟩ : IsS55 w w5 gb271 l0 0 0)); clear HB; have HB := n0_; have HI271 := n1_; clear n0_ n1_; clear hb hbox hg) | ((with_reducible refine gc_ 50 rfl ?_); refine gL_ 10 Tryz.func50 #[.pointer (some ⟨gb271, 0, none⟩), .int .i64 6] ?_; (with_reducible refine (spec_l1Cur_one.calls gb271 l0 0 0 6 true t273 t274 w _ ?side1 ?side2 A2.out).mono ?_); (case side1 => repeat (first | (with_reducible first | exact HI271.out | apply IsS55.alloc | apply IsS55.drewN | apply IsS55.drew | apply IsS55.set_1 | apply IsS55.set_2) | exact HI271.out)); (case side2 => repeat (first | (with_reducible first | exact HB.out | apply below_alloc | apply pw_below_drewN | apply below_drew1 | refine below_set ?_ (IsS55.ge HI271.out)) | exact HB.out)); rintro e w6 ⟨rfl, hi, hb, hk⟩; refine ⟨_, rfl, ?_⟩; replace HB := Aside0.mk (hb); replace HI271 := Aside0.mk (hi); (try clear hb); (try clear hk); (try clear hi)) | ((with_reducible refine gate_dst (N := 12) rfl ?_); refine Kd.R_lit (Kd.int .i64) _ 3 ?hg (N := 12) ?hd (xs := ([(-1), 0, 1, 11, 1000000000000, 1000000000001] : List Int)) (inner := [.int .i64 (-1), .int .i64 0, .int .i64 1, .int .i64 11, .int .i64 1000000000000, .int .i64 1000000000001]) (ok := fun _ => True) (okp := fun _ => True) ?hr ?hp (fun _ hk => hk) trivial (Below.refl _ _) (Nat.le_refl _) (by simp) ?_; (case hd => rfl); (case hg => rfl); (case hr => first | (go_simp; done) | (go_simp; rfl)); (case hp => exact (Reps.one (show Kd.M (Kd.int .i64) _ _ _ (-1) [.int .i64 (-1)] from rfl) (Reps.one (show Kd.M (Kd.int .i64) _ _ _ 0 [.int .i64 0] from rfl) (Reps.one (show Kd.M (Kd.int .i64) _ _ _ 1 [.int .i64 1] from rfl) (Reps.one (show Kd.M (Kd.int .i64) _ _ _ 11 [.int .i64 11] from rfl) (Reps.one (show Kd.M (Kd.int .i64) _ _ _ 1000000000000 [.int .i64 1000000000000] from rfl) (Reps.one (show Kd.M (Kd.int .i64) _ _ _ 1000000000001 [.int .i64 1000000000001] from rfl) (Reps.none _ _)))))))); intro v276 w7 ho8 hb hg_ hnew_; clear hg_ hnew_; (first | rw [← Ny275.out] at ho8 | (simp only [Int.reduceToNat] at ho8; rw [← Ny275.out] at ho8)); have n0_ := Aside0.mk (Kd.R_lower ho8 (below_size (by repeat (first | (with_reducible first | exact HB.out | apply below_alloc | apply pw_below_drewN | apply below_drew1 | refine below_set ?_ (IsS55.ge HI271.out)) | exact HB.out)))); have n1_ := Aside0.mk (IsS55.below (by repeat (first | (with_reducible first | exact HI271.out | apply IsS55.alloc | apply IsS55.drewN | apply IsS55.drew | apply IsS55.set_1 | apply IsS55.set_2) | exact HI271.out)) hb); have n2_ := Aside0.mk (below_step (by repeat (first | (with_reducible first | exact HB.out | apply below_alloc | apply pw_below_drewN | apply below_drew1 | refine below_set ?_ (IsS55.ge HI271.out)) | exact HB.out)) hb); clear HI271; clear HB; have HO277 := n0_; have HI271 := n1_; have HB := n2_; clear n0_ n1_ n2_; clear hb ho8; obtain ⟨Ao9, co9, eo9⟩ := Kd.R_slice HO277.out; subst eo9) | ((with_reducible refine gc_ 51 rfl ?_); refine gL_ 13 Tryz.func51 #[.pointer (some ⟨gb271, 0, none⟩), .slice Ao9 y275.length co9] ?_; (with_reducible refine (spec_l1Cur_among.calls gb271 l0 t273 t274 _ _ y275 t278 t279 t280 w _ ?side1 ?side2 ?side3 ?side4 ?side5 A4.out).mono ?_); (case side1 => repeat (first | (with_reducible first | exact HI271.out | apply IsS55.alloc | apply IsS55.drewN | apply IsS55.drew | apply IsS55.set_1 | apply IsS55.set_2) | exact HI271.out)); (case side2 => repeat (first | (with_reducible first | exact HB.out | apply below_alloc | apply pw_below_drewN | apply below_drew1 | refine below_set ?_ (IsS55.ge HI271.out)) | exact HB.out)); (case side3 => repeat (first | exact (Kd.R_reads' HO277.out).2.2 | (with_reducible refine Kd.C_alloc ?_ _) | (with_reducible refine Kd.C_drewN ?_ _) | (with_reducible refine Kd.C_drew ?_))); (case side4 => exact (Kd.R_reads' HO277.out).2.1); (case side5 => exact far_slice (IsS55.own_ne HI271.out HO277.out (by decide))); rintro e w10 ⟨rfl, hi, hb, hk⟩; refine ⟨_, rfl, ?_⟩; replace HO277 := Aside0.mk (Kd.R_mono (Kd.R_keep (IsS55.apart (show IsS55 w _ gb271 l0 t273 t274 from by repeat (first | (with_reducible first | exact HI271.out | apply IsS55.alloc | apply IsS55.drewN | apply IsS55.drew | apply IsS55.set_1 | apply IsS55.set_2) | exact HI271.out)) (by (with_reducible repeat (first | apply Kd.R_alloc | apply Kd.R_drewN | apply Kd.R_drew)); exact HO277.out) (by decide)) hk (fun _ h => h.2)) (fun _ h => h.1)); replace HB := Aside0.mk (hb); replace HI271 := Aside0.mk (hi); (try clear hb); (try clear hk); (try clear hi)))
   go_ret
   exact ⟨zR_, by repeat (first | (with_reducible first | exact HB.out | apply below_alloc | apply pw_below_drewN | apply below_drew1 | refine below_set ?_ (IsS55.ge HI271.out)) | exact HB.out)⟩
 replace H := bf_ c3 H; obtain ⟨rfl, H⟩ := H
 replace H := bd_ H; obtain ⟨⟨t281, t282, t283⟩, A11, H⟩ := H
 dsimp only at H
 have H' := Aside0.mk H
 clear H
 go_enter Tryz.func19, Tryz.ntmps19
 go_wp2_with (first | ((with_reducible refine gate_dst (N := 8) rfl ?_); refine box_event ?hg (N := 8) ?hd (cs := #[.slice A0 l0.length c0, .int .i64 0, .int .u64 0]) (t := 55) ?hr ?_; (case hd => rfl); (case hg => rfl); (case hr => first | (go_simp; done) | (go_simp; rfl)); intro gb271 hg w12 hbox hb; have n0_ := Aside0.mk (below_step zB_ hb); have n1_ := Aside0.mk ((⟨_, _, hbox, (by rw [hg]; exact (below_size zB_) : w.heap.size ≤ gb271), HR0.out⟩ : IsS55 w w12 gb271 l0 0 0)); clear HB; have HB := n0_; have HI271 := n1_; clear n0_ n1_; clear hb hbox hg) | ((with_reducible refine gc_ 50 rfl ?_); refine gL_ 10 Tryz.func50 #[.pointer (some ⟨gb271, 0, none⟩), .int .i64 6] ?_; (with_reducible refine (spec_l1Cur_one.calls gb271 l0 0 0 6 false t273 t274 w _ ?side1 ?side2 A2.out).mono ?_); (case side1 => repeat (first | (with_reducible first | exact HI271.out | apply IsS55.alloc | apply IsS55.drewN | apply IsS55.drew | apply IsS55.set_1 | apply IsS55.set_2) | exact HI271.out)); (case side2 => repeat (first | (with_reducible first | exact HB.out | apply below_alloc | apply pw_below_drewN | apply below_drew1 | refine below_set ?_ (IsS55.ge HI271.out)) | exact HB.out)); rintro e w13 ⟨rfl, hi, hb, hk⟩; refine ⟨_, rfl, ?_⟩; replace HB := Aside0.mk (hb); replace HI271 := Aside0.mk (hi); (try clear hb); (try clear hk); (try clear hi)) | ((with_reducible refine gc_ 52 rfl ?_); refine gL_ 15 Tryz.func52 #[.pointer (some ⟨gb271, 0, none⟩), .int .i64 9] ?_; (with_reducible refine (spec_l1Cur_pick.calls gb271 l0 t273 t274 9 t281 t282 t283 w _ ?side1 ?side2 A11.out).mono ?_); (case side1 => repeat (first | (with_reducible first | exact HI271.out | apply IsS55.alloc | apply IsS55.drewN | apply IsS55.drew | apply IsS55.set_1 | apply IsS55.set_2) | exact HI271.out)); (case side2 => repeat (first | (with_reducible first | exact HB.out | apply below_alloc | apply pw_below_drewN | apply below_drew1 | refine below_set ?_ (IsS55.ge HI271.out)) | exact HB.out)); rintro e w14 ⟨rfl, hi, hb, hk⟩; refine ⟨_, rfl, ?_⟩; replace HB := Aside0.mk (hb); replace HI271 := Aside0.mk (hi); (try clear hb); (try clear hk); (try clear hi)))
 go_loopg [4, 5] k (fun kq v4 v5 w' => ∃ (x4_1 : Int) (x5_1 : Int) (x272001_1 : Int) (x272002_1 : Int), v4 = .int .i64 x4_1 ∧ v5 = .int .i64 x5_1 ∧ Aside0 (spec_DrawLeastWithProduct.l0 kq x4_1 x5_1 l0 x272001_1 x272002_1 = some r) ∧ Aside0 (kq ≤ k) ∧ Aside0 (IsS55 w w' gb271 l0 x272001_1 x272002_1) ∧ Aside0 (Below w.heap.size w w'))
 case atStart => exact ⟨(1), (t281), (t282), (t283), zV_, zV_, H', ⟨Nat.le_refl _⟩, ⟨by repeat (first | (with_reducible first | exact HI271.out | apply IsS55.alloc | apply IsS55.drewN | apply IsS55.drew | apply IsS55.set_1 | apply IsS55.set_2) | exact HI271.out)⟩, ⟨by repeat (first | (with_reducible first | exact HB.out | apply below_alloc | apply pw_below_drewN | apply below_drew1 | refine below_set ?_ (IsS55.ge HI271.out)) | exact HB.out)⟩⟩
 case round =>
  clear H'
  (try clear c1);(try clear p2);(try clear c3);(try clear c5)
  obtain ⟨x4_1, x5_1, x272001_1, x272002_1, rfl, rfl, HA, HK1, HI271, HB⟩ := hrel
  cases gk with
  | zero => exact absurd HA.out (by simp [spec_DrawLeastWithProduct.l0])
  | succ k1 =>
   have H := HA.out
   clear HA
   simp only [spec_DrawLeastWithProduct.l0] at H
   by_cases c15 : x5_1 > 0
   · rw [if_pos c15] at H
     have c15b0 : decide (0 < x5_1) = true := decide_eq_true c15
     clear c15
     replace H := bd_ H; obtain ⟨⟨t284, t285, t286⟩, A16, H⟩ := H
     dsimp only at H
     have H' := Aside0.mk H
     clear H
     go_wp2_with (first | ((with_reducible refine gc_ 52 rfl ?_); refine gL_ 22 Tryz.func52 #[.pointer (some ⟨gb271, 0, none⟩), .int .i64 9] ?_; (with_reducible refine (spec_l1Cur_pick.calls gb271 l0 x272001_1 x272002_1 9 t284 t285 t286 w _ ?side1 ?side2 A16.out).mono ?_); (case side1 => repeat (first | (with_reducible first | exact HI271.out | apply IsS55.alloc | apply IsS55.drewN | apply IsS55.drew | apply IsS55.set_1 | apply IsS55.set_2) | exact HI271.out)); (case side2 => repeat (first | (with_reducible first | exact HB.out | apply below_alloc | apply pw_below_drewN | apply below_drew1 | refine below_set ?_ (IsS55.ge HI271.out)) | exact HB.out)); rintro e w17 ⟨rfl, hi, hb, hk⟩; refine ⟨_, rfl, ?_⟩; replace HB := Aside0.mk (hb); replace HI271 := Aside0.mk (hi); (try clear hb); (try clear hk); (try clear hi)))
     go_roundg k1
     case measure => have := HK1.out; omega
     case rel => exact ⟨(wrap64 (x4_1 * (wrap64 (1 + t284)))), (wrap64 (x5_1 - 1)), (t285), (t286), zV_, zV_, H', ⟨by have := HK1.out; omega⟩, ⟨by repeat (first | (with_reducible first | exact HI271.out | apply IsS55.alloc | apply IsS55.drewN | apply IsS55.drew | apply IsS55.set_1 | apply IsS55.set_2) | exact HI271.out)⟩, ⟨by repeat (first | (with_reducible first | exact HB.out | apply below_alloc | apply pw_below_drewN | apply below_drew1 | refine below_set ?_ (IsS55.ge HI271.out)) | exact HB.out)⟩⟩
   rw [if_neg c15] at H
   have c15b0 : decide (0 < x5_1) = false := decide_eq_false c15
   clear c15
   obtain rfl := Option.some.inj H
   go_wp2
   go_ret
   exact ⟨zR_, by repeat (first | (with_reducible first | exact HB.out | apply below_alloc | apply pw_below_drewN | apply below_drew1 | refine below_set ?_ (IsS55.ge HI271.out)) | exact HB.out)⟩

/-! ### impl_isProduct: function 53 -/
def impl_isProduct.f (a0 : Int) : Option (Bool) := (impl_within.f a0 1 1000000000000).bind fun t287 => (some t287)
set_option maxHeartbeats 8000000 in
set_option maxRecDepth 100000 in
theorem impl_isProduct.calls (a0 : Int) (r : Bool) (w : World) (h : impl_isProduct.f a0 = some r) :
 Calls Tryz.prog 53 #[.int .i64 a0] w fun e w' => e = .returned (.bool r) ∧ Drawn0 w w' := by
 unfold impl_isProduct.f at h
 have H := h
 clear h
 replace H := bd_ H; obtain ⟨t287, A2, H⟩ := H
 obtain rfl := Option.some.inj H
 go_enter Tryz.func53, Tryz.ntmps53
 go_wp2_with (first | ((with_reducible refine gc_ 66 rfl ?_); refine gL_ 4 Tryz.func66 #[.int .i64 a0, .int .i64 1, .int .i64 1000000000000] ?_; (with_reducible refine (impl_within.calls a0 1 1000000000000 t287 _ A2.out).mono ?_); rintro e w' ⟨rfl, ⟨nd, rfl⟩⟩; refine ⟨_, rfl, ?_⟩))
 go_ret
 exact ⟨by first | rfl | (simp; done) | (simp [*]; done), by repeat (first | exact Drawn0.refl _ | apply Drawn0.step)⟩

/-! ### impl_asLeast: function 54 -/
-- behind 37
def impl_asLeast.f (k : Nat) (xs : List Int) : Option (Int × Bool) := if xs.length > 12 then some (0, false) else (impl_numberOf.f k (strOfNums (SortB.sorted xs))).bind fun r => some (r, true)
theorem impl_asLeast.mono : ∀ xs k, LeO (impl_asLeast.f k xs) (impl_asLeast.f (k + 1) xs) := by
 intro xs k
 unfold impl_asLeast.f
 exact LeO.ite (LeO.refl _) (LeO.bind (impl_numberOf.mono _ _) (fun _ => LeO.refl _))
set_option maxHeartbeats 8000000 in
set_option maxRecDepth 100000 in
open Bytes in
theorem impl_asLeast.calls (k g cap : Nat) (ok : Nat → Prop) (xs : List Int) (r1 : Int) (r2 : Bool) (w w0 : World) (hB : Below w0.heap.size w0 w) (hm : MZ 5 w w0.heap.size ok (.slice (some ⟨g, 0, none⟩) xs.length cap) xs) (hn : xs.length < 4611686018427387904) (h : impl_asLeast.f k xs = some (r1, r2)) :
 Calls Tryz.prog 54 #[.slice (some ⟨g, 0, none⟩) xs.length cap] w fun e w' => e = .returned (.tuple #[.int .i64 r1, .bool r2]) ∧ Below w0.heap.size w0 w' := by
 obtain ⟨ys, hys⟩ : ∃ ys, ys = SortB.sorted xs := ⟨_, rfl⟩
 have hyl : ys.length = xs.length := by rw [hys, SortB.sorted_length]
 unfold impl_asLeast.f at h
 rw [← hys] at h
 have HM := Aside0.mk hm
 have HB := Aside0.mk hB
 have HYS := Aside0.mk hys
 have HYL := Aside0.mk hyl
 have HN := Aside0.mk hn
 clear hm hB hys hyl hn
 by_cases c : xs.length > 12
 · rw [if_pos c] at h
   simp only [Option.some.injEq, Prod.mk.injEq] at h
   obtain ⟨rfl, rfl⟩ := h
   have d1 : decide ((12 : Int) < (xs.length : Int)) = true := decide_eq_true (by omega)
   have d2 : decide (12 < xs.length) = true := decide_eq_true c
   clear c
   go_enter Tryz.func54, Tryz.ntmps54
   go_wp2_with (first | (go_at_call 42; (with_reducible refine (Sort_MZ HB.out HM.out HN.out).mono ?_); rintro e w8 ⟨rfl, ho, hb⟩; rw [← HYS.out] at ho; clear HM HB; have HM := Aside0.mk ho; have HB := Aside0.mk hb; clear ho hb))
   go_ret2
   exact ⟨rfl, HB.out⟩
 rw [if_neg c] at h
 obtain ⟨q, hq, h⟩ := Option.bind_eq_some_iff.mp h
 simp only [Option.some.injEq, Prod.mk.injEq] at h
 obtain ⟨rfl, rfl⟩ := h
 have HQ := Aside0.mk hq
 have d1 : decide ((12 : Int) < (xs.length : Int)) = false := decide_eq_false (by omega)
 have d2 : decide (12 < xs.length) = false := decide_eq_false c
 clear c hq
 go_enter Tryz.func54, Tryz.ntmps54
 go_wp2_with (first | (go_at_call 42; (with_reducible refine (Sort_MZ HB.out HM.out HN.out).mono ?_); rintro e w8 ⟨rfl, ho, hb⟩; rw [← HYS.out] at ho; clear HM HB; have HB := Aside0.mk hb; have hC := (MZ_reads' ho).2.2; rw [HYL.out] at hC; have hcv := Kd.C_string (P := Tryz.prog) (src := 22) (dst := 9) (e := 5) (c := cap) Tryz.underlying22 Tryz.underlying5 Tryz.underlying9 hC; clear ho hb hC) | (go_at_call 37; (with_reducible refine (impl_numberOf.calls k _ q _ HQ.out).mono ?_); rintro e w' ⟨rfl, ⟨nd, rfl⟩⟩))
 go_ret2
 exact ⟨rfl, by repeat (first | exact HB.out | apply pw_below_drewN | apply below_drew1)⟩
set_option maxHeartbeats 8000000 in
set_option maxRecDepth 100000 in
theorem impl_asLeast.calls_nil (k : Nat) (A : Option Addr) (cap : Nat) (r1 : Int) (r2 : Bool) (w : World) (h : impl_asLeast.f k [] = some (r1, r2)) :
 Calls Tryz.prog 54 #[.slice A 0 cap] w fun e w' => e = .returned (.tuple #[.int .i64 r1, .bool r2]) ∧ Below w.heap.size w w' := by
 unfold impl_asLeast.f at h
 rw [if_neg (by simp)] at h
 obtain ⟨q, hq, h⟩ := Option.bind_eq_some_iff.mp h
 simp only [Option.some.injEq, Prod.mk.injEq] at h
 obtain ⟨rfl, rfl⟩ := h
 have hs : SortB.sorted ([] : List Int) = [] := by
  have := SortB.sorted_length ([] : List Int)
  exact List.eq_nil_of_length_eq_zero (by simpa using this)
 rw [hs] at hq
 have HQ := Aside0.mk hq
 have HB := Aside0.mk (Below.refl w.heap.size w)
 have hcv := Kd.C_string (P := Tryz.prog) (w := w) (src := 22) (dst := 9) (e := 5) (c := cap) (A := A) (n := 0) (xs := []) Tryz.underlying22 Tryz.underlying5 Tryz.underlying9 (show (Kd.int .u8).C w A 0 [] from ⟨rfl, by simp, fun h => absurd h (Nat.lt_irrefl 0)⟩)
 clear hq hs
 go_enter Tryz.func54, Tryz.ntmps54
 go_wp2_with (first | (go_at_call 42; (with_reducible refine (SortB.Sort_int_nil A cap _).mono ?_); rintro e w8 ⟨rfl, rfl⟩) | (go_at_call 37; (with_reducible refine (impl_numberOf.calls k _ q _ HQ.out).mono ?_); rintro e w' ⟨rfl, ⟨nd, rfl⟩⟩))
 go_ret2
 exact ⟨rfl, by repeat (first | exact HB.out | apply pw_below_drewN | apply below_drew1)⟩
open Bytes in
theorem impl_asLeast.own (k : Nat) (v : Value) (xs : List Int) (r1 : Int) (r2 : Bool) (w w0 : World) (hB : Below w0.heap.size w0 w) (ho : w.ownsRow w0.heap.size 5 1 v xs.length (nums .u8 xs)) (hn : xs.length < 4611686018427387904) (h : impl_asLeast.f k xs = some (r1, r2)) :
 Calls Tryz.prog 54 #[v] w fun e w' => e = .returned (.tuple #[.int .i64 r1, .bool r2]) ∧ Below w0.heap.size w0 w' := by
 by_cases hp : 0 < xs.length
 · have hm := MZ_of_own (ok := fun _ => True) (fun _ _ => trivial) hp ho
   obtain ⟨g, cap, rfl, _⟩ := MZ_form hm hp
   exact impl_asLeast.calls k g cap _ xs r1 r2 w w0 hB hm hn h
 have hx : xs = [] := List.eq_nil_of_length_eq_zero (by omega)
 subst hx
 rcases ho.2 with ⟨rfl, _⟩ | ⟨g, cap, cur, rfl, hg, hh, r⟩
 · exact (impl_asLeast.calls_nil k none 0 r1 r2 w h).mono fun e w' ⟨h1, h2⟩ => ⟨h1, below_step hB h2⟩
 exact (impl_asLeast.calls_nil k _ cap r1 r2 w h).mono fun e w' ⟨h1, h2⟩ => ⟨h1, below_step hB h2⟩

/-! ### impl_LeastWithProduct: function 20 -/
-- behind 54 53
mutual
def impl_LeastWithProduct.l0 : Nat → Int → List Int → Int → Option (Int × Bool)
 | 0, _, _, _ => none
 | k + 1, x0, x4, x5 => if x5 > 1 then (impl_LeastWithProduct.l1 k x0 x4 x5) else (if x0 > 1 then (some (0, false)) else if x4.length < 4611686018427387904 then ((impl_asLeast.f k x4).bind fun bt362 => (some (bt362.1, bt362.2))) else none)
def impl_LeastWithProduct.l1 : Nat → Int → List Int → Int → Option (Int × Bool)
 | 0, _, _, _ => none
 | k + 1, x0, x4, x5 => if x5 = 0 then (none) else (if (Int.tmod x0 x5) = 0 then (if x4.length < 140737488355328 then (impl_LeastWithProduct.l1 k (wrap64 (Int.tdiv x0 x5)) (x4 ++ [(wrap64 (48 + x5)) % 256]) x5) else (none)) else (impl_LeastWithProduct.l0 k x0 x4 (wrap64 (x5 - 1))))
end
def impl_LeastWithProduct.f (k : Nat) (a0 : Int) : Option (Int × Bool) := (impl_isProduct.f a0).bind fun t358 => (if t358 = true then (if a0 = 1 then (some (1, true)) else (impl_LeastWithProduct.l0 k a0 (([] : List Int)) 9)) else (some (0, false)))
theorem impl_LeastWithProduct.mono_l : ∀ k, (∀ y0 y1 y2, LeO (impl_LeastWithProduct.l0 k y0 y1 y2) (impl_LeastWithProduct.l0 (k + 1) y0 y1 y2)) ∧ (∀ y0 y1 y2, LeO (impl_LeastWithProduct.l1 k y0 y1 y2) (impl_LeastWithProduct.l1 (k + 1) y0 y1 y2))
 | 0 => ⟨fun _ _ _ r h => by simp [impl_LeastWithProduct.l0] at h, fun _ _ _ r h => by simp [impl_LeastWithProduct.l1] at h⟩
 | k + 1 => by
  obtain ⟨ih0, ih1⟩ := impl_LeastWithProduct.mono_l k
  refine ⟨?_, ?_⟩
  · intro y0 y1 y2
    unfold impl_LeastWithProduct.l0
    repeat' first
    | (with_reducible exact ih0 _ _ _)
    | (with_reducible exact ih1 _ _ _)
    | (with_reducible exact impl_asLeast.mono _ _)
    | (with_reducible exact LeO.refl _)
    | (with_reducible exact LeO.none _)
    | (with_reducible refine LeO.ite ?_ ?_)
    | (with_reducible refine LeO.bind ?_ (fun _ => ?_))
    | exact LeO.none _
    | refine LeO.ite ?_ ?_
    | refine LeO.bind ?_ (fun _ => ?_)
  intro y0 y1 y2
  unfold impl_LeastWithProduct.l1
  repeat' first
  | (with_reducible exact ih0 _ _ _)
  | (with_reducible exact ih1 _ _ _)
  | (with_reducible exact impl_asLeast.mono _ _)
  | (with_reducible exact LeO.refl _)
  | (with_reducible exact LeO.none _)
  | (with_reducible refine LeO.ite ?_ ?_)
  | (with_reducible refine LeO.bind ?_ (fun _ => ?_))
  | exact LeO.none _
  | refine LeO.ite ?_ ?_
  | refine LeO.bind ?_ (fun _ => ?_)
theorem impl_LeastWithProduct.mono : ∀ a0 k, LeO (impl_LeastWithProduct.f k a0) (impl_LeastWithProduct.f (k + 1) a0) := by
 intro a0 k
 obtain ⟨ih0, ih1⟩ := impl_LeastWithProduct.mono_l k
 unfold impl_LeastWithProduct.f
 repeat' first
  | (with_reducible exact ih0 _ _ _)
  | (with_reducible exact ih1 _ _ _)
  | (with_reducible exact impl_asLeast.mono _ _)
  | (with_reducible exact LeO.refl _)
  | (with_reducible exact LeO.none _)
  | (with_reducible refine LeO.ite ?_ ?_)
  | (with_reducible refine LeO.bind ?_ (fun _ => ?_))
  | exact LeO.none _
  | refine LeO.ite ?_ ?_
  | refine LeO.bind ?_ (fun _ => ?_)
set_option maxHeartbeats 8000000 in
set_option maxRecDepth 100000 in
theorem impl_LeastWithProduct.calls (k : Nat) (a0 : Int) (r1 : Int) (r2 : Bool) (w : World) (h : impl_LeastWithProduct.f k a0 = some (r1, r2)) :
 Calls Tryz.prog 20 #[.int .i64 a0] w fun e w' => e = .returned (.tuple #[.int .i64 r1, .bool r2]) ∧ Below w.heap.size w w' := by
 have HB := Aside0.mk (Below.refl w.heap.size w)
 unfold impl_LeastWithProduct.f at h
 have H := h
 clear h
 replace H := bd_ H; obtain ⟨t358, A2, H⟩ := H
 by_cases c3 : t358 = true
 · subst c3
   rw [if_pos rfl] at H
   by_cases c4 : a0 = 1
   · rw [if_pos c4] at H
     have c4b0 : (a0 == 1) = true := beq_iff_eq.mpr c4
     have c4b1 : (a0 != 1) = false := bne_eq_false_iff_eq.mpr c4
     clear c4
     simp only [Option.some.injEq, Prod.mk.injEq] at H
     obtain ⟨rfl, rfl⟩ := H
     go_enter Tryz.func20, Tryz.ntmps20
     go_wp2_with (first | ((with_reducible refine gc_ 53 rfl ?_); refine gL_ 7 Tryz.func53 #[.int .i64 a0] ?_; (with_reducible refine (impl_isProduct.calls a0 true _ A2.out).mono ?_); rintro e w' ⟨rfl, ⟨nd, rfl⟩⟩; refine ⟨_, rfl, ?_⟩))
     go_ret2
     exact ⟨zR_, zB_⟩
   rw [if_neg c4] at H
   have c4b0 : (a0 == 1) = false := beq_eq_false_iff_ne.mpr c4
   have c4b1 : (a0 != 1) = true := bne_iff_ne.mpr c4
   obtain ⟨y359, hy359⟩ : ∃ y_ : List Int, y_ = (([] : List Int)) := ⟨_, rfl⟩
   replace H : (impl_LeastWithProduct.l0 k a0 y359 9) = some (r1, r2) := by first | (rw [hy359]; with_reducible exact H) | (have H2_ := (Option.bind_some _ _).symm.trans H; rw [hy359]; with_reducible exact H2_) | (have H2_ := (Option.bind_some _ _).symm.trans H; with_reducible exact H2_) | with_reducible exact H | (rw [hy359]; exact H) | exact H
   have Ny359 := Aside0.mk hy359
   clear hy359
   have H' := Aside0.mk H
   clear H
   go_enter Tryz.func20, Tryz.ntmps20
   go_wp2_with (first | ((with_reducible refine gc_ 53 rfl ?_); refine gL_ 7 Tryz.func53 #[.int .i64 a0] ?_; (with_reducible refine (impl_isProduct.calls a0 true _ A2.out).mono ?_); rintro e w' ⟨rfl, ⟨nd, rfl⟩⟩; refine ⟨_, rfl, ?_⟩) | ((with_reducible refine gate_dst (N := 11) rfl ?_); refine Kd.R_lit (Kd.int .u8) _ 5 ?hg (N := 11) ?hd (xs := ([] : List Int)) (inner := []) (ok := fun _ => True) (okp := fun _ => True) ?hr ?hp (fun _ hk => hk) trivial (Below.refl _ _) (Nat.le_refl _) (by simp) ?_; (case hd => rfl); (case hg => rfl); (case hr => first | (go_simp; done) | (go_simp; rfl)); (case hp => exact (Reps.none _ _)); intro v360 w5 ho6 hb hg_ hnew_; clear hg_ hnew_; (first | rw [← Ny359.out] at ho6 | (simp only [Int.reduceToNat] at ho6; rw [← Ny359.out] at ho6)); have HO361 := Aside0.mk (Kd.R_lower ho6 (below_size zB_)); replace HB := Aside0.mk (below_step zB_ hb); clear hb ho6))
   go_loopg [0, 4, 5] k (fun kq v0 v4 v5 w' => ∃ (x0_1 : Int) (x4_1 : List Int) (x5_1 : Int), v0 = .int .i64 x0_1 ∧ v5 = .int .i64 x5_1 ∧ Aside0 (impl_LeastWithProduct.l0 kq x0_1 x4_1 x5_1 = some (r1, r2)) ∧ Aside0 (kq ≤ k) ∧ Aside0 (Kd.R (Kd.int .u8) 5 w' w.heap.size (fun _ => True) v4 x4_1) ∧ Aside0 (Below w.heap.size w w'))
   case atStart => exact ⟨(a0), (y359), (9), zV_, zV_, H', ⟨Nat.le_refl _⟩, ⟨by (with_reducible repeat (first | apply Kd.R_alloc | apply Kd.R_drewN | apply Kd.R_drew)); exact HO361.out⟩, ⟨zB_⟩⟩
   case round =>
    clear H'
    (try clear c2);(try clear p2);(try clear c3);(try clear c4);(try clear c4b0);(try clear c4b1)
    obtain ⟨x0_1, x4_1, x5_1, rfl, rfl, HA, HK1, HO_4, HB⟩ := hrel
    cases gk with
    | zero => exact absurd HA.out (by simp [impl_LeastWithProduct.l0])
    | succ k1 =>
     have H := HA.out
     clear HA
     simp only [impl_LeastWithProduct.l0] at H
     by_cases c7 : x5_1 > 1
     · rw [if_pos c7] at H
       have c7b0 : decide (1 < x5_1) = true := decide_eq_true c7
       clear c7
       have H' := Aside0.mk H
       clear H
       go_wp2
       go_loopg [0, 4] k1 (fun kq v0 v4 w' => ∃ (x0_2 : Int) (x4_2 : List Int), v0 = .int .i64 x0_2 ∧ Aside0 (impl_LeastWithProduct.l1 kq x0_2 x4_2 x5_1 = some (r1, r2)) ∧ Aside0 (kq ≤ k1) ∧ Aside0 (Kd.R (Kd.int .u8) 5 w' w.heap.size (fun _ => True) v4 x4_2) ∧ Aside0 (Below w.heap.size w w'))
       case atStart => exact ⟨(x0_1), (x4_1), zV_, H', ⟨Nat.le_refl _⟩, ⟨by (with_reducible repeat (first | apply Kd.R_alloc | apply Kd.R_drewN | apply Kd.R_drew)); exact HO_4.out⟩, ⟨zB_⟩⟩
       case round =>
        clear H'
        (try clear c2);(try clear p2);(try clear c3);(try clear c4);(try clear c4b0);(try clear c4b1);(try clear c7);(try clear c7b0);(try clear p2)
        obtain ⟨x0_2, x4_2, rfl, HA, HK2, HO_4, HB⟩ := hrel
        cases gk with
        | zero => exact absurd HA.out (by simp [impl_LeastWithProduct.l1])
        | succ k2 =>
         have H := HA.out
         clear HA
         simp only [impl_LeastWithProduct.l1] at H
         by_cases c8 : x5_1 = 0
         · exact none_ (if_pos c8) H
         rw [if_neg c8] at H
         have c8b0 : (x5_1 == 0) = false := beq_eq_false_iff_ne.mpr c8
         have c8b1 : (x5_1 != 0) = true := bne_iff_ne.mpr c8
         by_cases c9 : (Int.tmod x0_2 x5_1) = 0
         · rw [if_pos c9] at H
           have c9b0 : ((Int.tmod x0_2 x5_1) == 0) = true := beq_iff_eq.mpr c9
           have c9b1 : ((Int.tmod x0_2 x5_1) != 0) = false := bne_eq_false_iff_eq.mpr c9
           clear c9
           replace H := gd_ H; obtain ⟨c10, H⟩ := H
           have LMc10 := Aside0.mk c10
           clear c10
           obtain ⟨y364, hy364⟩ : ∃ y_ : List Int, y_ = (x4_2 ++ [(wrap64 (48 + x5_1)) % 256]) := ⟨_, rfl⟩
           replace H : (impl_LeastWithProduct.l1 k2 (wrap64 (Int.tdiv x0_2 x5_1)) y364 x5_1) = some (r1, r2) := by first | (rw [hy364]; with_reducible exact H) | (have H2_ := (Option.bind_some _ _).symm.trans H; rw [hy364]; with_reducible exact H2_) | (have H2_ := (Option.bind_some _ _).symm.trans H; with_reducible exact H2_) | with_reducible exact H | (rw [hy364]; exact H) | exact H
           have Ny364 := Aside0.mk hy364
           clear hy364
           have H' := Aside0.mk H
           clear H
           go_wp2_with (first | ((with_reducible refine gate_builtin (b := .append) (xs := #[.tmp 20, .tmp 24]) rfl ?_); at_builtin; refine Kd.R_append (Kd.int .u8) (w0 := w) w.heap.size rfl (.tmp 20) (.tmp 24) 22 5 (.int .u8 0) 1 rfl Tryz.underlying22 info5 rfl (by decide) (by omega) u4 x4_2 ((wrap64 (48 + x5_1)) % 256) [.int .u8 ((wrap64 (48 + x5_1)) % 256)] (fun _ => True) (fun _ => False) rfl rfl ?aP (fun _ hk => hk.elim) ?aF ?aO ?aB ?aS ?aL ?_; (case aP => exact rfl); (case aB => exact zB_); (case aF => exact (fun _ _ => trivial)); (case aO => exact (by (with_reducible repeat (first | apply Kd.R_alloc | apply Kd.R_drewN | apply Kd.R_drew)); exact HO_4.out)); (case aS => exact (below_size zB_)); (case aL => have := LMc10.out; omega); intro v365 w11 ho hb hg hat; rw [← Ny364.out] at ho; replace HB := Aside0.mk (hb); have HO366 := Aside0.mk (ho); clear HO_4; clear ho hb hg hat))
           go_roundg k2
           case measure => have := HK1.out; have := HK2.out; omega
           case rel => exact ⟨(wrap64 (Int.tdiv x0_2 x5_1)), (y364), zV_, H', ⟨by have := HK1.out; have := HK2.out; omega⟩, ⟨by (with_reducible repeat (first | apply Kd.R_alloc | apply Kd.R_drewN | apply Kd.R_drew)); exact HO366.out⟩, ⟨zB_⟩⟩
         rw [if_neg c9] at H
         have c9b0 : ((Int.tmod x0_2 x5_1) == 0) = false := beq_eq_false_iff_ne.mpr c9
         have c9b1 : ((Int.tmod x0_2 x5_1) != 0) = true := bne_iff_ne.mpr c9
         have H' := Aside0.mk H
         clear H
         go_wp2
         go_roundg k2
         case measure => have := HK1.out; have := HK2.out; omega
         case rel => exact ⟨(x0_2), (x4_2), (wrap64 (x5_1 - 1)), zV_, zV_, H', ⟨by have := HK1.out; have := HK2.out; omega⟩, ⟨by (with_reducible repeat (first | apply Kd.R_alloc | apply Kd.R_drewN | apply Kd.R_drew)); exact HO_4.out⟩, ⟨zB_⟩⟩
     rw [if_neg c7] at H
     have c7b0 : decide (1 < x5_1) = false := decide_eq_false c7
     clear c7
     by_cases c12 : x0_1 > 1
     · rw [if_pos c12] at H
       have c12b0 : decide (1 < x0_1) = true := decide_eq_true c12
       clear c12
       simp only [Option.some.injEq, Prod.mk.injEq] at H
       obtain ⟨rfl, rfl⟩ := H
       go_wp2
       go_ret2
       exact ⟨zR_, zB_⟩
     rw [if_neg c12] at H
     have c12b0 : decide (1 < x0_1) = false := decide_eq_false c12
     clear c12
     replace H := gd_ H; obtain ⟨cLM, H⟩ := H
     have LMC := Aside0.mk cLM
     clear cLM
     replace H := bd_ H; obtain ⟨⟨t362, t363⟩, A13, H⟩ := H
     dsimp only at H
     simp only [Option.some.injEq, Prod.mk.injEq] at H
     obtain ⟨rfl, rfl⟩ := H
     obtain ⟨Ao14, co14, eo14⟩ := Kd.R_slice HO_4.out
     subst eo14
     go_wp2_with (first | ((with_reducible refine gc_ 54 rfl ?_); refine gL_ 32 Tryz.func54 #[.slice Ao14 x4_1.length co14] ?_; (refine (impl_asLeast.own k1 _ x4_1 t362 t363 _ w zB_ (Kd.own_of_R (by (with_reducible repeat (first | apply Kd.R_alloc | apply Kd.R_drewN | apply Kd.R_drew)); exact HO_4.out)) LMC.out A13.out).mono ?_); rintro e w15 ⟨rfl, hb⟩; refine ⟨_, rfl, ?_⟩; clear HB HO_4; have HB := Aside0.mk hb; clear hb))
     go_ret2
     exact ⟨zR_, zB_⟩
 replace H := bf_ c3 H; obtain ⟨rfl, H⟩ := H
 simp only [Option.some.injEq, Prod.mk.injEq] at H
 obtain ⟨rfl, rfl⟩ := H
 go_enter Tryz.func20, Tryz.ntmps20
 go_wp2_with (first | ((with_reducible refine gc_ 53 rfl ?_); refine gL_ 7 Tryz.func53 #[.int .i64 a0] ?_; (with_reducible refine (impl_isProduct.calls a0 false _ A2.out).mono ?_); rintro e w' ⟨rfl, ⟨nd, rfl⟩⟩; refine ⟨_, rfl, ?_⟩))
 go_ret2
 exact ⟨zR_, zB_⟩

/-! ### spec_l1Most: function 56 -/
def spec_l1Most.f (a0 : Int) (a1 : Int) : Option (Int) := if a0 > a1 then (some a0) else (some a1)
set_option maxHeartbeats 8000000 in
set_option maxRecDepth 100000 in
theorem spec_l1Most.calls (a0 : Int) (a1 : Int) (r : Int) (w : World) (h : spec_l1Most.f a0 a1 = some r) :
 Calls Tryz.prog 56 #[.int .i64 a0, .int .i64 a1] w fun e w' => e = .returned (.int .i64 r) ∧ Drawn0 w w' := by
 unfold spec_l1Most.f at h
 have H := h
 clear h
 by_cases c3 : a0 > a1
 · rw [if_pos c3] at H
   have c3b0 : decide (a1 < a0) = true := decide_eq_true c3
   clear c3
   obtain rfl := Option.some.inj H
   go_enter Tryz.func56, Tryz.ntmps56
   go_wp2
   go_ret
   exact ⟨by first | rfl | (simp; done) | (simp [*]; done), by repeat (first | exact Drawn0.refl _ | apply Drawn0.step)⟩
 rw [if_neg c3] at H
 have c3b0 : decide (a1 < a0) = false := decide_eq_false c3
 clear c3
 obtain rfl := Option.some.inj H
 go_enter Tryz.func56, Tryz.ntmps56
 go_wp2
 go_ret
 exact ⟨by first | rfl | (simp; done) | (simp [*]; done), by repeat (first | exact Drawn0.refl _ | apply Drawn0.step)⟩

end Go.Proofs.YtjnfaidngaobmaaGreatDoor.PFnLeastOfDigits

-- Laid by this session's program gprint.py over the kit's print.
import Derived.Test.YtiobgaeambfcbaaDoorPFnExactParseCheckx0
import Derived.Test.YtiobgaeambfcbaaDoorPFnExactParseCheckx3
namespace Go.Proofs.YtiobgaeambfcbaaDoor.PFnExactParseCheck
open Go.RowKit Go.Proofs.YtiobgaeambfcbaaDoorW.PrintWords Go.Proofs.YtiobgaeambfcbaaDoorW.PrintLast Go.Proofs.YtiobgaeambfcbaaDoorW.PrintMore
attribute [local go_sem] max2_int min2_int max_two min_two max_three min_three max_four min_four   -- for this text's walks alone
set_option linter.unusedVariables false
set_option linter.unusedSimpArgs false
theorem z4_0_ {p : Prop} (h : p := by repeat (first | (with_reducible first | exact HB.out | apply below_alloc | apply pw_below_drewN | apply below_drew1 | refine below_set ?_ GE163.out | refine below_set ?_ GE167.out) | exact HB.out)) : p := h
theorem z4_1_ {p : Prop} (h : p := by repeat (first | (with_reducible first | exact HB.out | apply below_alloc | apply pw_below_drewN | apply below_drew1) | exact HB.out)) : p := h
theorem z4_2_ {p : Prop} (h : p := by (try simp only [List.map_toArray, List.map_cons, List.map_nil]); first | done | rfl | (simp only [List.length_drop, List.length_take]; rfl)) : p := h
theorem z4_3_ {p : Prop} (h : p := by (with_reducible repeat (first | refine blk_drewN ?_ _ | refine blk_drew ?_ | refine blk_alloc ?_ _)); exact BK163.out) : p := h
theorem z4_4_ {p : Prop} (h : p := by (with_reducible repeat (first | refine blk_drewN ?_ _ | refine blk_drew ?_ | refine blk_alloc ?_ _)); refine blk_put (cs := #[.slice none 0 0, .int .i64 0]) ?_ 1 _ rfl; (with_reducible repeat (first | refine blk_drewN ?_ _ | refine blk_drew ?_ | refine blk_alloc ?_ _)); refine blk_put (cs := #[.slice none 0 0, .int .i64 0]) ?_ 0 _ rfl; (with_reducible repeat (first | refine blk_drewN ?_ _ | refine blk_drew ?_ | refine blk_alloc ?_ _)); exact BK163.out) : p := h
theorem z4_5_ {p : Prop} (h : p := by (with_reducible repeat (first | apply Kd.R_alloc | apply Kd.R_drewN | apply Kd.R_drew)); exact HO_168000.out) : p := h
theorem z4_6_ {p : Prop} (h : p := by (with_reducible repeat (first | refine blk_drewN ?_ _ | refine blk_drew ?_ | refine blk_alloc ?_ _)); exact BK167.out) : p := h
theorem z4_7_ {p : Prop} (h : p := by repeat (first | (with_reducible first | exact HB.out | apply below_alloc | apply pw_below_drewN | apply below_drew1 | refine below_set ?_ GE163.out) | exact HB.out)) : p := h
theorem z4_8_ {p : Prop} (h : p := by (with_reducible repeat (first | apply Kd.R_alloc | apply Kd.R_drewN | apply Kd.R_drew)); exact HO_26.out) : p := h
theorem z4_9_ {p : Prop} (h : p := by repeat (first | (with_reducible first | exact HB.out | apply below_alloc | apply pw_below_drewN | apply below_drew1 | refine below_set ?_ GE160.out) | exact HB.out)) : p := h
theorem z4_10_ {p : Prop} (h : p := by (with_reducible repeat (first | apply Kd.R_alloc | apply Kd.R_drewN | apply Kd.R_drew)); exact HO_3.out) : p := h

/-! ### impl_number: function 58 -/
-- behind 43 47
def impl_number.val (s : ByteArray) : Option Int := match Lib.atoiAll s.data.toList with
 | .ok v => some v
 | _ => none
def impl_number.f (a0 : ByteArray) (a1 : Int) : Option (Int × Bool) := if a0.size ≤ 1000000000 then (match impl_number.val a0 with
 | some v => (strconv_Itoa.f v).bind fun t => (if t.toList = a0.toList then (impl_within.f v 0 a1).bind fun b => (if b = true then some (v, true) else some (0, false)) else some (0, false))
 | none => some (0, false)) else none
set_option maxHeartbeats 8000000 in
set_option maxRecDepth 100000 in
theorem impl_number.calls (a0 : ByteArray) (a1 : Int) (r1 : Int) (r2 : Bool) (w : World) (hT : Shelf.TabOk w) (h : impl_number.f a0 a1 = some (r1, r2)) :
 Calls Tryd.prog 58 #[.string a0, .int .i64 a1] w fun e w' => e = .returned (.tuple #[.int .i64 r1, .bool r2]) ∧ Below w.heap.size w w' := by
 have HT := Aside0.mk hT
 unfold impl_number.f at h
 by_cases hz : a0.size ≤ 1000000000
 rotate_left
 · exact none_ (if_neg hz) h
 rw [if_pos hz] at h
 have HZ := Aside0.mk hz
 clear hT hz
 cases hv : impl_number.val a0 with
 | none =>
  rw [hv] at h
  simp only [Option.some.injEq, Prod.mk.injEq] at h
  obtain ⟨rfl, rfl⟩ := h
  have hn : ∀ v, Lib.atoiAll a0.data.toList ≠ .ok v := fun v e => by unfold impl_number.val at hv; rw [e] at hv; cases hv
  have HN := Aside0.mk hn
  clear hv hn
  go_enter Tryd.func58, Tryd.ntmps58
  go_wp2_with (first | (go_at_call 75; (with_reducible refine (Shelf.Atoi_bad a0 _ HT.out HZ.out HN.out).mono ?_); rintro e w6 ⟨v6, t6, p6, rfl, hb⟩; have HB := Aside0.mk hb; clear hb))
  go_ret2
  exact ⟨rfl, by repeat (first | exact HB.out | apply pw_below_drewN | apply below_drew1)⟩
 | some v =>
  rw [hv] at h
  dsimp only at h
  obtain ⟨t, ht, h⟩ := Option.bind_eq_some_iff.mp h
  have hok : Lib.atoiAll a0.data.toList = .ok v := by
   unfold impl_number.val at hv
   rcases hc : Lib.atoiAll a0.data.toList with u | _ | _
   · rw [hc] at hv; injection hv with hv; rw [hv]
   · rw [hc] at hv; cases hv
   rw [hc] at hv; cases hv
  have HOK := Aside0.mk hok
  have HI := Aside0.mk ht
  clear hv hok ht
  by_cases q : t.toList = a0.toList
  · rw [if_pos q] at h
    obtain ⟨b, hb0, h⟩ := Option.bind_eq_some_iff.mp h
    have HW := Aside0.mk hb0
    have q1 : (t.toList == a0.toList) = true := beq_iff_eq.mpr q
    have q2 : (t.toList != a0.toList) = false := bne_eq_false_iff_eq.mpr q
    clear q hb0
    cases b with
    | true =>
     rw [if_pos rfl] at h
     simp only [Option.some.injEq, Prod.mk.injEq] at h
     obtain ⟨rfl, rfl⟩ := h
     go_enter Tryd.func58, Tryd.ntmps58
     go_wp2_with (first | (go_at_call 75; (with_reducible refine (Shelf.Atoi_ok a0 _ HZ.out _ HOK.out).mono ?_); rintro e w6 ⟨rfl, hb⟩; have HB := Aside0.mk hb; clear hb) | (go_at_call 43; (with_reducible refine (strconv_Itoa.calls _ t _ (Shelf.TabOk.below HT.out HB.out) HI.out).mono ?_); rintro e w7 ⟨rfl, hb⟩; have n0_ := Aside0.mk (below_step HB.out hb); clear HB hb; have HB := n0_; clear n0_) | (go_at_call 47; (with_reducible refine (impl_within.calls _ 0 a1 true _ HW.out).mono ?_); rintro e w' ⟨rfl, ⟨nd, rfl⟩⟩))
     go_ret2
     exact ⟨rfl, by repeat (first | exact HB.out | apply pw_below_drewN | apply below_drew1)⟩
    | false =>
     rw [if_neg (by decide)] at h
     simp only [Option.some.injEq, Prod.mk.injEq] at h
     obtain ⟨rfl, rfl⟩ := h
     go_enter Tryd.func58, Tryd.ntmps58
     go_wp2_with (first | (go_at_call 75; (with_reducible refine (Shelf.Atoi_ok a0 _ HZ.out _ HOK.out).mono ?_); rintro e w6 ⟨rfl, hb⟩; have HB := Aside0.mk hb; clear hb) | (go_at_call 43; (with_reducible refine (strconv_Itoa.calls _ t _ (Shelf.TabOk.below HT.out HB.out) HI.out).mono ?_); rintro e w7 ⟨rfl, hb⟩; have n0_ := Aside0.mk (below_step HB.out hb); clear HB hb; have HB := n0_; clear n0_) | (go_at_call 47; (with_reducible refine (impl_within.calls _ 0 a1 false _ HW.out).mono ?_); rintro e w' ⟨rfl, ⟨nd, rfl⟩⟩))
     go_ret2
     exact ⟨rfl, by repeat (first | exact HB.out | apply pw_below_drewN | apply below_drew1)⟩
  rw [if_neg q] at h
  simp only [Option.some.injEq, Prod.mk.injEq] at h
  obtain ⟨rfl, rfl⟩ := h
  have q1 : (t.toList == a0.toList) = false := beq_eq_false_iff_ne.mpr q
  have q2 : (t.toList != a0.toList) = true := bne_iff_ne.mpr q
  clear q
  go_enter Tryd.func58, Tryd.ntmps58
  go_wp2_with (first | (go_at_call 75; (with_reducible refine (Shelf.Atoi_ok a0 _ HZ.out _ HOK.out).mono ?_); rintro e w6 ⟨rfl, hb⟩; have HB := Aside0.mk hb; clear hb) | (go_at_call 43; (with_reducible refine (strconv_Itoa.calls _ t _ (Shelf.TabOk.below HT.out HB.out) HI.out).mono ?_); rintro e w7 ⟨rfl, hb⟩; have n0_ := Aside0.mk (below_step HB.out hb); clear HB hb; have HB := n0_; clear n0_))
  go_ret2
  exact ⟨rfl, by repeat (first | exact HB.out | apply pw_below_drewN | apply below_drew1)⟩

/-! ### strings_Split: function 59 -/
theorem strings_Split.reps (W : World) (base : Nat) (ok : Nat → Prop) (xs : List ByteArray) : Reps (Kd.string.M W base ok) 1 xs (xs.map Value.string) := by
 refine ⟨by simp, fun j p hj => ?_⟩
 obtain ⟨hl, hp⟩ := List.getElem?_eq_some_iff.1 hj
 have e : ((xs.map Value.string).drop (j * 1)).take 1 = [Value.string p] := by
  rw [Nat.mul_one, List.drop_eq_getElem_cons (by simpa using hl), List.take_succ_cons, List.take_zero, List.getElem_map, hp]
 rw [e]
 exact rfl
theorem strings_Split.row (W : World) (e : Nat) (xs : List ByteArray) (hm : xs.length ≤ 9223372036854775807) : Kd.R Kd.string e (W.alloc (.cells (xs.map Value.string).toArray e)) W.heap.size (fun _ => True) (.slice (some ⟨W.heap.size, 0, none⟩) xs.length xs.length) xs := by
 refine ⟨fun _ _ => trivial, xs.map Value.string, ?_, strings_Split.reps _ _ _ xs⟩
 have h2 := World.ownsRow_lit (base := W.heap.size) (e := e) (size := 1) W (xs.map Value.string).toArray xs.length (Nat.le_refl _) (by simpa [maxLen] using hm) (by simp)
 have h3 : (W.alloc (.cells (xs.map Value.string).toArray e)).ownsRow W.heap.size e 1 (.slice (some ⟨W.heap.size, 0, none⟩) xs.length xs.length) xs.length (xs.map Value.string) := by simpa using h2
 exact h3
def strings_Split.f (a0 a1 : ByteArray) : Option (List ByteArray) := if a0.size < 4294967281 then (if 1 ≤ a1.size then some (Lib.splitB a1 0 (Lib.countB a0 a1) a0) else none) else none
theorem strings_Split.calls (a0 a1 : ByteArray) (r : List ByteArray) (w : World) (hT : Shelf.TabOk w) (h : strings_Split.f a0 a1 = some r) :
 Calls Tryd.prog 59 #[.string a0, .string a1] w fun e w' => ∃ v0_ : Value, e = .returned (v0_) ∧ Kd.R Kd.string 9 w' w.heap.size (fun _ => True) v0_ r ∧ Below w.heap.size w w' := by
 unfold strings_Split.f at h
 by_cases h0 : a0.size < 4294967281
 rotate_left
 · exact none_ (if_neg h0) h
 rw [if_pos h0] at h
 by_cases h1 : 1 ≤ a1.size
 rotate_left
 · exact none_ (if_neg h1) h
 rw [if_pos h1] at h
 obtain rfl := Option.some.inj h
 have hle := Lib.countB_le a1 h1 a0.size a0 (Nat.le_refl _)
 have hlen := Lib.splitB_all a1 h1 0 _ a0 rfl
 refine (Shelf.Split a0 a1 w hT h0 h1).mono ?_
 rintro e w' ⟨rfl, rfl⟩
 refine ⟨_, rfl, ?_, below_alloc (Below.refl _ _) _⟩
 have hr := strings_Split.row w 9 (Lib.splitB a1 0 (Lib.countB a0 a1) a0) (by omega)
 rw [hlen] at hr
 exact hr

/-! ### impl_IsCheck: function 60 -/
-- behind 47
set_option maxHeartbeats 8000000 in
set_option maxRecDepth 100000 in
theorem slices_IndexFunc_int (p : Int → Option Bool) (g : FuncId) (fn : Func) (lb : Array Value) (A0 : Option Addr) (c0 : Nat) (l0 : List Int) (b : Bool) (w : World)
 (hr0 : Kd.C (Kd.int .i64) w A0 l0.length l0) (hc0 : l0.length ≤ c0)
 (hf : Tryd.prog.funcs[g]? = some fn) (hname : (fn.name == "runtime.NumGoroutine") = false) (hb : fn.body.isSome = true)
 (hp : ∀ x t W, p x = some t → Below w.heap.size w W → Calls Tryd.prog g (#[.int .i64 x] ++ lb) W fun e W' => e = .returned (.bool t) ∧ Below W.heap.size W W')
 (h : Fn.anyO p l0 = some b) :
 Calls Tryd.prog 89 #[.slice A0 l0.length c0, .func (.func g) #[] lb] w fun e w' => ∃ i : Int, e = .returned (.int .i64 i) ∧ Fn.idxOk b i ∧ Below w.heap.size w w' := by
 have HL := Aside0.mk hr0.2.1
 have HR0 := Aside0.mk hr0
 have HC0 := Aside0.mk hc0
 have HP := Aside0.mk hp
 have HF := Aside0.mk hf
 have HN := Aside0.mk hname
 have HBD := Aside0.mk hb
 have H' := Aside0.mk (show Fn.anyO p (l0.drop 0) = some b from h)
 have HB := Aside0.mk (Below.refl w.heap.size w)
 clear hr0 hc0 hp hf hname hb h
 go_enter Tryd.func89, Tryd.ntmps89
 go_wp2
 go_loopg [8] (l0.length + 1) (fun kq v8 w' => ∃ j : Nat, v8 = .int .i64 (j : Int) ∧ Aside0 (j + kq = l0.length + 1) ∧ Aside0 (Fn.anyO p (l0.drop j) = some b) ∧ Aside0 (Below w.heap.size w w'))
 case atStart => exact ⟨0, rfl, ⟨by omega⟩, H', HB⟩
 case round =>
  clear H' HB
  obtain ⟨j, rfl, HJ, HA, HB⟩ := hrel
  by_cases c : j < l0.length
  · obtain ⟨t, ht, hb⟩ := Fn.anyO_drop p l0 (0 : Int) j c b HA.out
    have HT := Aside0.mk (show p (rd l0 (j : Int)) = some t from ht)
    have HBB := Aside0.mk hb
    clear ht hb HA
    have hl := HL.out
    obtain ⟨ad1, e1, hx0⟩ := Kd.at_int HR0.out (j : Int) (by omega) (by omega)
    cases e1
    simp only [Int.toNat_natCast] at hx0
    replace hx0 := (HB.out.cell (World.block_lt_of_cell? w _ hx0)).trans hx0
    have p1 : (0 ≤ (j : Int)) = True := eq_true (by omega)
    have q1 : ((j : Int) < (l0.length : Int)) = True := eq_true (by omega)
    have c1 : decide ((j : Int) < (l0.length : Int)) = true := decide_eq_true (by omega)
    have c2 : decide (j < l0.length) = true := decide_eq_true c
    cases t with
    | true =>
     go_wp2_with (first | ((with_reducible refine gate_dst (N := 16) rfl ?_); refine Fn.goesF_ (some 16) rfl rfl HF.out HN.out HBD.out #[.int .i64 (rd l0 (j : Int))] rfl (by rfl) (by (try simp only [List.map_toArray, List.map_cons, List.map_nil]); rfl) ?_; (with_reducible refine (HP.out _ true _ HT.out HB.out).mono ?_); rintro e w11 ⟨rfl, hb⟩; refine ⟨_, rfl, ?_⟩; have HB2 := Aside0.mk (below_step HB.out hb); clear hb))
     go_ret
     have hbt : b = true := by
      rcases HBB.out with ⟨_, e⟩ | ⟨e, _⟩
      · exact e
      cases e
     exact ⟨_, rfl, Fn.idxOk_yes hbt (by omega), HB2.out⟩
    | false =>
     go_wp2_with (first | ((with_reducible refine gate_dst (N := 16) rfl ?_); refine Fn.goesF_ (some 16) rfl rfl HF.out HN.out HBD.out #[.int .i64 (rd l0 (j : Int))] rfl (by rfl) (by (try simp only [List.map_toArray, List.map_cons, List.map_nil]); rfl) ?_; (with_reducible refine (HP.out _ false _ HT.out HB.out).mono ?_); rintro e w11 ⟨rfl, hb⟩; refine ⟨_, rfl, ?_⟩; have HB2 := Aside0.mk (below_step HB.out hb); clear hb))
     go_roundg (gk - 1)
     case measure => have := HJ.out; omega
     case rel =>
      have hnx : Fn.anyO p (l0.drop (j + 1)) = some b := by
       rcases HBB.out with ⟨e, _⟩ | ⟨_, h⟩
       · cases e
       exact h
      exact ⟨j + 1, by go_num, ⟨by have := HJ.out; omega⟩, ⟨hnx⟩, HB2⟩
  have c1 : decide ((j : Int) < (l0.length : Int)) = false := decide_eq_false (by omega)
  have c2 : decide (j < l0.length) = false := decide_eq_false c
  have hbf : b = false := by
   have h := HA.out
   rw [List.drop_eq_nil_of_le (by omega)] at h
   exact (Option.some.inj h).symm
  have HBF := Aside0.mk hbf
  clear hbf
  go_wp2
  go_ret
  exact ⟨_, rfl, Fn.idxOk_no HBF.out (by omega), HB.out⟩

set_option maxHeartbeats 8000000 in
set_option maxRecDepth 100000 in
theorem slices_ContainsFunc_int (p : Int → Option Bool) (g : FuncId) (fn : Func) (lb : Array Value) (A0 : Option Addr) (c0 : Nat) (l0 : List Int) (b : Bool) (w : World)
 (hr0 : Kd.C (Kd.int .i64) w A0 l0.length l0) (hc0 : l0.length ≤ c0)
 (hf : Tryd.prog.funcs[g]? = some fn) (hname : (fn.name == "runtime.NumGoroutine") = false) (hb : fn.body.isSome = true)
 (hp : ∀ x t W, p x = some t → Below w.heap.size w W → Calls Tryd.prog g (#[.int .i64 x] ++ lb) W fun e W' => e = .returned (.bool t) ∧ Below W.heap.size W W')
 (h : Fn.anyO p l0 = some b) :
 Calls Tryd.prog 77 #[.slice A0 l0.length c0, .func (.func g) #[] lb] w fun e w' => e = .returned (.bool b) ∧ Below w.heap.size w w' := by
 have HR0 := Aside0.mk hr0
 have HC0 := Aside0.mk hc0
 have HP := Aside0.mk hp
 have HF := Aside0.mk hf
 have HN := Aside0.mk hname
 have HBD := Aside0.mk hb
 have H := Aside0.mk h
 clear hr0 hc0 hp hf hname hb h
 cases b with
 | true =>
  go_enter Tryd.func77, Tryd.ntmps77
  go_wp2_with (first | (go_at_call 89; (with_reducible refine (slices_IndexFunc_int p g fn lb A0 c0 l0 true w HR0.out HC0.out HF.out HN.out HBD.out HP.out H.out).mono ?_); rintro e w1 ⟨i, rfl, hi, hb⟩; have hi2 : 0 ≤ i := Fn.idxOk_true hi; clear hi; have hi3 : decide (0 ≤ i) = true := decide_eq_true hi2; have HB := Aside0.mk hb; clear hb))
  go_ret
  exact ⟨rfl, HB.out⟩
 | false =>
  go_enter Tryd.func77, Tryd.ntmps77
  go_wp2_with (first | (go_at_call 89; (with_reducible refine (slices_IndexFunc_int p g fn lb A0 c0 l0 false w HR0.out HC0.out HF.out HN.out HBD.out HP.out H.out).mono ?_); rintro e w1 ⟨i, rfl, hi, hb⟩; have hi2 : i < 0 := Fn.idxOk_false hi; clear hi; have hi3 : decide (0 ≤ i) = false := decide_eq_false (by omega); have HB := Aside0.mk hb; clear hb))
  go_ret
  exact ⟨rfl, HB.out⟩
set_option maxHeartbeats 8000000 in
set_option maxRecDepth 100000 in
theorem impl_IsCheck_1.calls (x m : Int) (g : Nat) (w : World) (hm0 : 2 ≤ m) (hm1 : m ≤ 11) (hc : w.cell? ⟨g, 1, none⟩ = some (.int .i64 m)) :
 Calls Tryd.prog 78 #[.int .i64 x, .pointer (some ⟨g, 0, none⟩)] w fun e w' => e = .returned (.bool (!(decide (0 ≤ x ∧ x ≤ m - 1)))) ∧ Below w.heap.size w w' := by
 have hu := Tryd.underlying38
 obtain ⟨t, ht⟩ : ∃ t, t = decide (0 ≤ x ∧ x ≤ m - 1) := ⟨_, rfl⟩
 have hw : impl_within.f x 0 (m - 1) = some t := by
  rw [ht]
  show (if 0 ≤ x then some (decide (x ≤ m - 1)) else some false) = _
  by_cases c : 0 ≤ x
  · rw [if_pos c]; simp [c]
  rw [if_neg c]; simp [c]
 have e1 : wrap64 (m - 1) = m - 1 := by simp [wrap64]; omega
 rw [← ht]
 have HW := Aside0.mk hw
 clear hw ht
 have HX : Aside0 (∀ W, Calls Tryd.prog 47 #[.int .i64 x, .int .i64 0, .int .i64 (wrap64 (m - 1))] W fun e w' => e = .returned (.bool t) ∧ Below W.heap.size W w') := ⟨fun W => by rw [e1]; exact (impl_within.calls x 0 (m - 1) t W HW.out).mono fun e w' h => ⟨h.1, h.2.below⟩⟩
 clear e1 hm0 hm1 HW
 go_enter Tryd.func78, Tryd.ntmps78
 go_wp2_with (first | (go_at_call 47; (with_reducible refine (HX.out _).mono ?_); rintro e w1 ⟨rfl, hb⟩; have HB := Aside0.mk hb; clear hb))
 go_ret
 exact ⟨rfl, HB.out⟩
def impl_IsCheck.f (l0 : List Int) (m : Int) : Option Bool := if 2 ≤ (l0.length : Int) ∧ (l0.length : Int) ≤ 12 then (if 2 ≤ m ∧ m ≤ 11 then (Fn.anyO (fun x => some (!(decide (0 ≤ x ∧ x ≤ m - 1)))) l0).bind fun t => some (!t) else some false) else some false
set_option maxHeartbeats 8000000 in
set_option maxRecDepth 100000 in
theorem impl_IsCheck.calls (A0 : Option Addr) (c0 : Nat) (l0 : List Int) (m : Int) (r : Bool) (w : World) (hr0 : Kd.C (Kd.int .i64) w A0 l0.length l0) (hc0 : l0.length ≤ c0) (h : impl_IsCheck.f l0 m = some r) :
 Calls Tryd.prog 60 #[.agg #[.slice A0 l0.length c0, .int .i64 m]] w fun e w' => e = .returned (.bool r) ∧ Below w.heap.size w w' := by
 have hu := Tryd.underlying38
 have HR0 := Aside0.mk hr0
 have HC0 := Aside0.mk hc0
 have HB := Aside0.mk (Below.refl w.heap.size w)
 unfold impl_IsCheck.f at h
 clear hr0 hc0
 by_cases c : 2 ≤ (l0.length : Int) ∧ (l0.length : Int) ≤ 12
 rotate_left
 · rw [if_neg c] at h
   obtain rfl := Option.some.inj h
   have hw : impl_within.f (l0.length : Int) 2 12 = some false := by
    show (if 2 ≤ (l0.length : Int) then some (decide ((l0.length : Int) ≤ 12)) else some false) = _
    by_cases c1 : 2 ≤ (l0.length : Int)
    · rw [if_pos c1, decide_eq_false (fun c2 => c ⟨c1, c2⟩)]
    rw [if_neg c1]
   have HW := Aside0.mk hw
   clear h hw c
   go_enter Tryd.func60, Tryd.ntmps60
   go_wp2_with (first | ((with_reducible refine gate_dst (N := 1) rfl ?_); refine box_event ?hg (N := 1) ?hd (cs := #[.slice A0 l0.length c0, .int .i64 m]) (t := 38) ?hr ?_; (case hd => rfl); (case hg => rfl); (case hr => first | (go_simp; done) | (go_simp; rfl)); intro g1 hg w5 hbox hb; have HB1 := Aside0.mk (below_step HB.out hb); have HBW := Aside0.mk hb; have hz : w5.cell? ⟨g1, 0, none⟩ = some (.slice A0 l0.length c0) := (blk_cell hbox 0).trans rfl; have hz1 : w5.cell? ⟨g1, 1, none⟩ = some (.int .i64 m) := (blk_cell hbox 1).trans rfl; clear hb hbox hg) | (go_at_call 47; (with_reducible refine (impl_within.calls (l0.length : Int) 2 12 false _ HW.out).mono ?_); rintro e w6 ⟨rfl, hd⟩; have HB2 := Aside0.mk (below_step HB1.out hd.below); have hy : w6.cell? ⟨g1, 0, none⟩ = some (.slice A0 l0.length c0) := (hd.below.cell (World.block_lt_of_cell? _ _ hz)).trans hz; have hy1 : w6.cell? ⟨g1, 1, none⟩ = some (.int .i64 m) := (hd.below.cell (World.block_lt_of_cell? _ _ hz1)).trans hz1; have HBW2 := Aside0.mk (below_step HBW.out hd.below); clear hz hz1 hd HBW; have hz := hy; have hz1 := hy1; have HBW := HBW2; clear hy hy1 HBW2))
   go_ret
   exact ⟨rfl, HB2.out⟩
 rw [if_pos c] at h
 have hw : impl_within.f (l0.length : Int) 2 12 = some true := by
  show (if 2 ≤ (l0.length : Int) then some (decide ((l0.length : Int) ≤ 12)) else some false) = _
  rw [if_pos c.1, decide_eq_true c.2]
 have HW := Aside0.mk hw
 clear hw
 by_cases c1 : 2 ≤ m ∧ m ≤ 11
 rotate_left
 · rw [if_neg c1] at h
   obtain rfl := Option.some.inj h
   have hw : impl_within.f m 2 11 = some false := by
    show (if 2 ≤ m then some (decide (m ≤ 11)) else some false) = _
    by_cases c2 : 2 ≤ m
    · rw [if_pos c2, decide_eq_false (fun c3 => c1 ⟨c2, c3⟩)]
    rw [if_neg c2]
   have HW2 := Aside0.mk hw
   clear h hw c c1
   go_enter Tryd.func60, Tryd.ntmps60
   go_wp2_with (first | ((with_reducible refine gate_dst (N := 1) rfl ?_); refine box_event ?hg (N := 1) ?hd (cs := #[.slice A0 l0.length c0, .int .i64 m]) (t := 38) ?hr ?_; (case hd => rfl); (case hg => rfl); (case hr => first | (go_simp; done) | (go_simp; rfl)); intro g1 hg w5 hbox hb; have HB1 := Aside0.mk (below_step HB.out hb); have HBW := Aside0.mk hb; have hz : w5.cell? ⟨g1, 0, none⟩ = some (.slice A0 l0.length c0) := (blk_cell hbox 0).trans rfl; have hz1 : w5.cell? ⟨g1, 1, none⟩ = some (.int .i64 m) := (blk_cell hbox 1).trans rfl; clear hb hbox hg) | (go_at_call 47; (with_reducible refine (impl_within.calls (l0.length : Int) 2 12 true _ HW.out).mono ?_); rintro e w6 ⟨rfl, hd⟩; have HB2 := Aside0.mk (below_step HB1.out hd.below); have hy : w6.cell? ⟨g1, 0, none⟩ = some (.slice A0 l0.length c0) := (hd.below.cell (World.block_lt_of_cell? _ _ hz)).trans hz; have hy1 : w6.cell? ⟨g1, 1, none⟩ = some (.int .i64 m) := (hd.below.cell (World.block_lt_of_cell? _ _ hz1)).trans hz1; have HBW2 := Aside0.mk (below_step HBW.out hd.below); clear hz hz1 hd HBW; have hz := hy; have hz1 := hy1; have HBW := HBW2; clear hy hy1 HBW2) | (go_at_call 47; (with_reducible refine (impl_within.calls m 2 11 false _ HW2.out).mono ?_); rintro e w7 ⟨rfl, hd⟩; have HB3 := Aside0.mk (below_step HB2.out hd.below); have hy : w7.cell? ⟨g1, 0, none⟩ = some (.slice A0 l0.length c0) := (hd.below.cell (World.block_lt_of_cell? _ _ hz)).trans hz; have hy1 : w7.cell? ⟨g1, 1, none⟩ = some (.int .i64 m) := (hd.below.cell (World.block_lt_of_cell? _ _ hz1)).trans hz1; have HBW2 := Aside0.mk (below_step HBW.out hd.below); clear hz hz1 hd HBW; have hz := hy; have hz1 := hy1; have HBW := HBW2; clear hy hy1 HBW2))
   go_ret
   exact ⟨rfl, HB3.out⟩
 rw [if_pos c1] at h
 have hw : impl_within.f m 2 11 = some true := by
  show (if 2 ≤ m then some (decide (m ≤ 11)) else some false) = _
  rw [if_pos c1.1, decide_eq_true c1.2]
 obtain ⟨t, ht, h⟩ := Option.bind_eq_some_iff.mp h
 obtain rfl := Option.some.inj h
 have HW2 := Aside0.mk hw
 have HT := Aside0.mk ht
 have HM := Aside0.mk c1
 clear h hw ht c c1
 go_enter Tryd.func60, Tryd.ntmps60
 go_wp2_with (first | ((with_reducible refine gate_dst (N := 1) rfl ?_); refine box_event ?hg (N := 1) ?hd (cs := #[.slice A0 l0.length c0, .int .i64 m]) (t := 38) ?hr ?_; (case hd => rfl); (case hg => rfl); (case hr => first | (go_simp; done) | (go_simp; rfl)); intro g1 hg w5 hbox hb; have HB1 := Aside0.mk (below_step HB.out hb); have HBW := Aside0.mk hb; have hz : w5.cell? ⟨g1, 0, none⟩ = some (.slice A0 l0.length c0) := (blk_cell hbox 0).trans rfl; have hz1 : w5.cell? ⟨g1, 1, none⟩ = some (.int .i64 m) := (blk_cell hbox 1).trans rfl; clear hb hbox hg) | (go_at_call 47; (with_reducible refine (impl_within.calls (l0.length : Int) 2 12 true _ HW.out).mono ?_); rintro e w6 ⟨rfl, hd⟩; have HB2 := Aside0.mk (below_step HB1.out hd.below); have hy : w6.cell? ⟨g1, 0, none⟩ = some (.slice A0 l0.length c0) := (hd.below.cell (World.block_lt_of_cell? _ _ hz)).trans hz; have hy1 : w6.cell? ⟨g1, 1, none⟩ = some (.int .i64 m) := (hd.below.cell (World.block_lt_of_cell? _ _ hz1)).trans hz1; have HBW2 := Aside0.mk (below_step HBW.out hd.below); clear hz hz1 hd HBW; have hz := hy; have hz1 := hy1; have HBW := HBW2; clear hy hy1 HBW2) | (go_at_call 47; (with_reducible refine (impl_within.calls m 2 11 true _ HW2.out).mono ?_); rintro e w7 ⟨rfl, hd⟩; have HB3 := Aside0.mk (below_step HB2.out hd.below); have hy : w7.cell? ⟨g1, 0, none⟩ = some (.slice A0 l0.length c0) := (hd.below.cell (World.block_lt_of_cell? _ _ hz)).trans hz; have hy1 : w7.cell? ⟨g1, 1, none⟩ = some (.int .i64 m) := (hd.below.cell (World.block_lt_of_cell? _ _ hz1)).trans hz1; have HBW2 := Aside0.mk (below_step HBW.out hd.below); clear hz hz1 hd HBW; have hz := hy; have hz1 := hy1; have HBW := HBW2; clear hy hy1 HBW2) | (go_at_call 77; (refine (slices_ContainsFunc_int (fun x => some (!(decide (0 ≤ x ∧ x ≤ m - 1)))) 78 _ #[.pointer (some ⟨g1, 0, none⟩)] A0 c0 l0 t _ (Kd.C_below HR0.out HBW.out) HC0.out Tryd.func78 (by kernel_rfl) rfl (fun x t W hx hb => by cases hx; exact impl_IsCheck_1.calls x m g1 W HM.out.1 HM.out.2 ((hb.cell (World.block_lt_of_cell? _ _ hz1)).trans hz1)) HT.out).mono ?_); rintro e w9 ⟨rfl, hb⟩; have HB4 := Aside0.mk (below_step HB3.out hb); clear hb))
 go_ret
 exact ⟨rfl, HB4.out⟩

/-! ### strings_Join: function 90 -/
def strings_Join.f (l0 : List ByteArray) (a1 : ByteArray) : Option ByteArray := if l0.length ≤ 140737488355328 then (if (Lib.join (l0.map (·.data.toList)) a1.data.toList).length ≤ 140737488355328 then some ⟨(Lib.join (l0.map (·.data.toList)) a1.data.toList).toArray⟩ else none) else none
theorem strings_Join.calls (A0 : Option Addr) (c0 : Nat) (l0 : List ByteArray) (a1 : ByteArray) (r : ByteArray) (w : World) (hr0 : Kd.C Kd.string w A0 l0.length l0) (hc0 : l0.length ≤ c0) (h : strings_Join.f l0 a1 = some r) :
 Calls Tryd.prog 90 #[.slice A0 l0.length c0, .string a1] w fun e w' => e = .returned (.string r) ∧ Below w.heap.size w w' := by
 unfold strings_Join.f at h
 by_cases h0 : l0.length ≤ 140737488355328
 rotate_left
 · exact none_ (if_neg h0) h
 rw [if_pos h0] at h
 by_cases h1 : (Lib.join (l0.map (·.data.toList)) a1.data.toList).length ≤ 140737488355328
 rotate_left
 · exact none_ (if_neg h1) h
 rw [if_pos h1] at h
 obtain rfl := Option.some.inj h
 by_cases hp : 0 < l0.length
 · obtain ⟨ad, rfl, hx⟩ := Kd.at_string hr0 0 (Int.le_refl 0) (by omega)
   have hsp : ad.spot = none := by
    simp only [Int.toNat_zero, show ad.add 0 = ad from rfl] at hx
    unfold World.cell? at hx
    split at hx
    · split at hx
      · cases hx
      cases hs : ad.spot with
      | none => rfl
      | some x => rename_i hn; simp [hs] at hn
    cases hx
   obtain ⟨b, o, sp⟩ := ad
   dsimp only at hsp
   subst hsp
   have hlt := World.block_lt_of_cell? w _ hx
   refine Shelf.Join b o c0 l0 a1 w (fun j x hj => ?_) (by simpa [Addr.add] using hlt) h0 hc0 h1
   have hjl : j < l0.length := by
    rcases Nat.lt_or_ge j l0.length with z | z
    · exact z
    rw [List.getElem?_eq_none z] at hj; cases hj
   obtain ⟨ad2, e2, hx2⟩ := Kd.at_string hr0 (j : Int) (by omega) (by omega)
   cases e2
   have e3 : rdOf ByteArray.empty l0 (j : Int) = x := by
    unfold rdOf
    rw [Int.toNat_natCast, List.getD_eq_getElem?_getD, hj]; rfl
   rw [e3, Int.toNat_natCast] at hx2
   have e4 : (⟨b, o, none⟩ : Addr).add j = ⟨b, o + j, none⟩ := by unfold Addr.add; split <;> simp_all
   rw [e4] at hx2
   exact hx2
 have e : l0 = [] := List.eq_nil_of_length_eq_zero (by omega)
 subst e
 refine (Shelf.Join_none A0 c0 a1 w).mono ?_
 rintro e w' ⟨rfl, rfl⟩
 exact ⟨rfl, Below.refl _ _⟩

/-! ### impl_listed: function 79 -/
def impl_listed.l0 : Nat → List ByteArray → List Int → Int → Int → Option (ByteArray)
 | 0, _, _, _, _ => none
 | k + 1, x3, x7, x8, x9 => if x9 < x8 then (if 0 ≤ x9 then (if x9 < (x7.length : Int) then ((strconv_Itoa.f (rd x7 x9)).bind fun t155 => (if x3.length < 8796093022208 then (impl_listed.l0 k (x3 ++ [t155]) x7 x8 (wrap64 (x9 + 1))) else (none))) else (none)) else (none)) else ((strings_Join.f x3 (⟨#[44]⟩ : ByteArray)).bind fun t159 => (some t159))
def impl_listed.f (k : Nat) (l0 : List Int) : Option (ByteArray) := impl_listed.l0 k (([] : List ByteArray)) l0 (l0.length : Int) 0
theorem impl_listed.mono_l : ∀ k, (∀ y0 y1 y2 y3, LeO (impl_listed.l0 k y0 y1 y2 y3) (impl_listed.l0 (k + 1) y0 y1 y2 y3))
 | 0 => fun _ _ _ _ r h => by simp [impl_listed.l0] at h
 | k + 1 => by
  have ih0 := impl_listed.mono_l k
  intro y0 y1 y2 y3
  unfold impl_listed.l0
  repeat' first
  | (with_reducible exact ih0 _ _ _ _)
  | (with_reducible exact LeO.refl _)
  | (with_reducible exact LeO.none _)
  | (with_reducible refine LeO.ite ?_ ?_)
  | (with_reducible refine LeO.bind ?_ (fun _ => ?_))
  | exact ih0 _ _ _ _
  | exact LeO.none _
  | refine LeO.ite ?_ ?_
  | refine LeO.bind ?_ (fun _ => ?_)
theorem impl_listed.mono : ∀ a0 k, LeO (impl_listed.f k a0) (impl_listed.f (k + 1) a0) := by
 intro a0 k
 have ih0 := impl_listed.mono_l k
 unfold impl_listed.f
 repeat' first
  | (with_reducible exact ih0 _ _ _ _)
  | (with_reducible exact LeO.refl _)
  | (with_reducible exact LeO.none _)
  | (with_reducible refine LeO.ite ?_ ?_)
  | (with_reducible refine LeO.bind ?_ (fun _ => ?_))
  | exact ih0 _ _ _ _
  | exact LeO.none _
  | refine LeO.ite ?_ ?_
  | refine LeO.bind ?_ (fun _ => ?_)
set_option maxHeartbeats 8000000 in
set_option maxRecDepth 100000 in
theorem impl_listed.calls (k : Nat) (A0 : Option Addr) (c0 : Nat) (l0 : List Int) (r : ByteArray) (w : World) (hT : Shelf.TabOk w) (hr0 : Kd.C (Kd.int .i64) w A0 l0.length l0) (hc0 : l0.length ≤ c0) (h : impl_listed.f k l0 = some r) :
 Calls Tryd.prog 79 #[.slice A0 l0.length c0] w fun e w' => e = .returned (.string r) ∧ Below w.heap.size w w' := by
 have HR0 := Aside0.mk hr0
 have HC0 := Aside0.mk hc0
 clear hr0 hc0
 have HT := Aside0.mk hT
 clear hT
 have HB := Aside0.mk (Below.refl w.heap.size w)
 have H : (impl_listed.l0 k (([] : List ByteArray)) l0 (l0.length : Int) 0) = some r := h
 clear h
 obtain ⟨y151, hy151⟩ : ∃ y_ : List ByteArray, y_ = (([] : List ByteArray)) := ⟨_, rfl⟩
 replace H : (impl_listed.l0 k y151 l0 (l0.length : Int) 0) = some r := by first | (rw [hy151]; with_reducible exact H) | (have H2_ := (Option.bind_some _ _).symm.trans H; rw [hy151]; with_reducible exact H2_) | (have H2_ := (Option.bind_some _ _).symm.trans H; with_reducible exact H2_) | with_reducible exact H | (rw [hy151]; exact H) | exact H
 have Ny151 := Aside0.mk hy151
 clear hy151
 have H' := Aside0.mk H
 clear H
 go_enter Tryd.func79, Tryd.ntmps79
 go_wp2_with (first | ((with_reducible refine gate_dst (N := 6) rfl ?_); refine Kd.R_lit Kd.string _ 9 ?hg (N := 6) ?hd (xs := ([] : List ByteArray)) (inner := []) (ok := fun _ => True) (okp := fun _ => True) ?hr ?hp (fun _ hk => hk) trivial (Below.refl _ _) (Nat.le_refl _) (by simp) ?_; (case hd => rfl); (case hg => rfl); (case hr => first | (go_simp; done) | (go_simp; rfl)); (case hp => exact (Reps.none _ _)); intro v152 w2 ho3 hb hg_ hnew_; clear hg_ hnew_; (first | rw [← Ny151.out] at ho3 | (simp only [Int.reduceToNat] at ho3; rw [← Ny151.out] at ho3)); have n0_ := Aside0.mk (Kd.R_lower ho3 (below_size z4_1_)); have n1_ := Aside0.mk (below_step z4_1_ hb); clear HB; have HO153 := n0_; have HB := n1_; clear n0_ n1_; clear hb ho3))
 go_loopg [3, 9] k (fun kq v3 v9 w' => ∃ (x3_1 : List ByteArray) (x9_1 : Int), v9 = .int .i64 x9_1 ∧ Aside0 (impl_listed.l0 kq x3_1 l0 (l0.length : Int) x9_1 = some r) ∧ Aside0 (kq ≤ k) ∧ Aside0 (Kd.R Kd.string 9 w' w.heap.size (fun _ => True) v3 x3_1) ∧ Aside0 (Below w.heap.size w w'))
 case atStart => exact ⟨(y151), (0), (by first | rfl | (simp; done) | (simp [*]; done)), H', ⟨Nat.le_refl _⟩, ⟨by (with_reducible repeat (first | apply Kd.R_alloc | apply Kd.R_drewN | apply Kd.R_drew)); exact HO153.out⟩, ⟨by repeat (first | (with_reducible first | exact HB.out | apply below_alloc | apply pw_below_drewN | apply below_drew1) | exact HB.out)⟩⟩
 case round =>
  clear H'
  try clear p2
  obtain ⟨x3_1, x9_1, rfl, HA, HK1, HO_3, HB⟩ := hrel
  cases gk with
  | zero => exact absurd HA.out (by simp [impl_listed.l0])
  | succ k1 =>
   have H := HA.out
   clear HA
   simp only [impl_listed.l0] at H
   by_cases c4 : x9_1 < (l0.length : Int)
   · rw [if_pos c4] at H
     have c4b0 : decide (x9_1 < (l0.length : Int)) = true := decide_eq_true c4
     clear c4
     by_cases c5 : 0 ≤ x9_1
     rotate_left
     · exact none_ (if_neg c5) H
     rw [if_pos c5] at H
     have c5b0 : decide (0 ≤ x9_1) = true := decide_eq_true c5
     clear c5
     by_cases c6 : x9_1 < (l0.length : Int)
     rotate_left
     · exact none_ (if_neg c6) H
     rw [if_pos c6] at H
     have c6b0 : decide (x9_1 < (l0.length : Int)) = true := decide_eq_true c6
     clear c6
     replace H := Option.bind_eq_some_iff.mp H
     obtain ⟨t155, A70, H⟩ := H
     have A7 := Aside0.mk A70
     clear A70
     by_cases c8 : x3_1.length < 8796093022208
     rotate_left
     · exact none_ (if_neg c8) H
     rw [if_pos c8] at H
     have LMc8 := Aside0.mk c8
     clear c8
     obtain ⟨y156, hy156⟩ : ∃ y_ : List ByteArray, y_ = (x3_1 ++ [t155]) := ⟨_, rfl⟩
     replace H : (impl_listed.l0 k1 y156 l0 (l0.length : Int) (wrap64 (x9_1 + 1))) = some r := by first | (rw [hy156]; with_reducible exact H) | (have H2_ := (Option.bind_some _ _).symm.trans H; rw [hy156]; with_reducible exact H2_) | (have H2_ := (Option.bind_some _ _).symm.trans H; with_reducible exact H2_) | with_reducible exact H | (rw [hy156]; exact H) | exact H
     have Ny156 := Aside0.mk hy156
     clear hy156
     have H' := Aside0.mk H
     clear H
     have p154 : 0 ≤ (x9_1 : Int) := of_decide_eq_true (by first | (with_reducible assumption) | assumption)
     have q154 : x9_1 < (l0.length : Int) := of_decide_eq_true (by first | (with_reducible assumption) | assumption)
     obtain ⟨ad154, e154, hx154_0⟩ := Kd.at_int HR0.out x9_1 p154 q154
     cases e154
     replace hx154_0 := (HB.out.cell (World.block_lt_of_cell? w _ hx154_0)).trans hx154_0
     replace p154 := eq_true p154
     replace q154 := eq_true q154
     go_wp2_with (first | ((with_reducible refine gate_callee (f := 43) rfl ?_); refine goesL_ (some 15) rfl rfl Tryd.func43 (by kernel_rfl) rfl #[.int .i64 (rd l0 x9_1)] rfl z4_2_ ?_; (with_reducible refine (strconv_Itoa.calls (rd l0 x9_1) t155 _ ?side1 A7.out).mono ?_); (case side1 => exact Shelf.TabOk.below HT.out z4_1_); rintro e w9 ⟨rfl, hb⟩; refine ⟨_, rfl, ?_⟩; have n0_ := Aside0.mk (Kd.R_below z4_10_ hb); have n1_ := Aside0.mk (below_step z4_1_ hb); clear HO_3; clear HB; have HO_3 := n0_; have HB := n1_; clear n0_ n1_; (try clear hb); (try clear hb2); (try clear hk); (try clear hi)) | ((with_reducible refine gate_builtin (b := .append) (xs := #[.tmp 13, .tmp 16]) rfl ?_); at_builtin; refine Kd.R_append Kd.string (w0 := w) w.heap.size rfl (.tmp 13) (.tmp 16) 59 9 (.string ⟨#[]⟩) 16 rfl Tryd.underlying59 info9 rfl (by decide) (by omega) u3 x3_1 t155 [.string t155] (fun _ => True) (fun _ => False) rfl rfl ?aP (fun _ hk => hk.elim) ?aF ?aO ?aB ?aS ?aL ?_; (case aP => exact rfl); (case aB => exact z4_1_); (case aF => exact (fun _ _ => trivial)); (case aO => exact z4_10_); (case aS => exact (below_size z4_1_)); (case aL => have := LMc8.out; omega); intro v157 w10 ho hb hg hat; rw [← Ny156.out] at ho; have n0_ := Aside0.mk (hb); have n1_ := Aside0.mk (ho); clear HB; clear HO_3; have HB := n0_; have HO158 := n1_; clear n0_ n1_; clear ho hb hg hat))
     go_roundg k1
     case measure => have := HK1.out; omega
     case rel => exact ⟨(y156), (wrap64 (x9_1 + 1)), (by first | rfl | (simp; done) | (simp [*]; done)), H', ⟨by have := HK1.out; omega⟩, ⟨by (with_reducible repeat (first | apply Kd.R_alloc | apply Kd.R_drewN | apply Kd.R_drew)); exact HO158.out⟩, ⟨by repeat (first | (with_reducible first | exact HB.out | apply below_alloc | apply pw_below_drewN | apply below_drew1) | exact HB.out)⟩⟩
   rw [if_neg c4] at H
   have c4b0 : decide (x9_1 < (l0.length : Int)) = false := decide_eq_false c4
   clear c4
   replace H := Option.bind_eq_some_iff.mp H
   obtain ⟨t159, A110, H⟩ := H
   have A11 := Aside0.mk A110
   clear A110
   obtain rfl := Option.some.inj H
   obtain ⟨Ao12, co12, eo12⟩ := Kd.R_slice HO_3.out
   subst eo12
   go_wp2_with (first | ((with_reducible refine gate_callee (f := 90) rfl ?_); refine goesL_ (some 20) rfl rfl Tryd.func90 (by kernel_rfl) rfl #[.slice Ao12 x3_1.length co12, .string (⟨#[44]⟩ : ByteArray)] rfl z4_2_ ?_; (with_reducible refine (strings_Join.calls _ _ x3_1 (⟨#[44]⟩ : ByteArray) t159 _ ?side1 ?side2 A11.out).mono ?_); (case side1 => repeat (first | exact (Kd.R_reads' HO_3.out).2.2 | (with_reducible refine Kd.C_alloc ?_ _) | (with_reducible refine Kd.C_drewN ?_ _) | (with_reducible refine Kd.C_drew ?_))); (case side2 => exact (Kd.R_reads' HO_3.out).2.1); rintro e w13 ⟨rfl, hb⟩; refine ⟨_, rfl, ?_⟩; have n0_ := Aside0.mk (Kd.R_below z4_10_ hb); have n1_ := Aside0.mk (below_step z4_1_ hb); clear HO_3; clear HB; have HO_3 := n0_; have HB := n1_; clear n0_ n1_; (try clear hb); (try clear hb2); (try clear hk); (try clear hi)))
   go_ret
   exact ⟨by first | rfl | (simp [errW_none, errW_some] <;> rfl) | (simp [*, errW_none, errW_some] <;> rfl), by repeat (first | (with_reducible first | exact HB.out | apply below_alloc | apply pw_below_drewN | apply below_drew1) | exact HB.out)⟩

/-! ### impl_checkText: function 61 -/
def impl_checkText.f (k : Nat) (l0_0 : List Int) (a0_1 : Int) : Option (ByteArray) := (impl_listed.f k l0_0).bind fun t161 => (if t161.size + 1 ≤ 9223372036854775807 then ((strconv_Itoa.f a0_1).bind fun t162 => (if (t161 ++ (⟨#[109]⟩ : ByteArray)).size + t162.size ≤ 9223372036854775807 then (some ((t161 ++ (⟨#[109]⟩ : ByteArray)) ++ t162)) else (none))) else (none))
theorem impl_checkText.mono : ∀ a0 a1 k, LeO (impl_checkText.f k a0 a1) (impl_checkText.f (k + 1) a0 a1) := by
 intro a0 a1 k
 unfold impl_checkText.f
 repeat' first
  | (with_reducible exact impl_listed.mono _ _)
  | (with_reducible exact LeO.refl _)
  | (with_reducible exact LeO.none _)
  | (with_reducible refine LeO.ite ?_ ?_)
  | (with_reducible refine LeO.bind ?_ (fun _ => ?_))
  | exact impl_listed.mono _ _
  | exact LeO.none _
  | refine LeO.ite ?_ ?_
  | refine LeO.bind ?_ (fun _ => ?_)
def impl_checkText.T1 : Bool × List (List Nat × List Nat) := (true, [([], []), ([0], [0]), ([1], [1]), ([2], [2]), ([], []), ([4], [4]), ([5, 2], [5]), ([3, 6], [3, 6]), ([7, 6, 0, 1, 2, 3, 4, 5, 6, 7], [7])])
def impl_checkText.B1 : List Nat := [0, 1, 3, 7, 0, 16, 55, 127, 255]
theorem impl_checkText.tab1 : rtab .any (opsOf Tryd.f61 1) = impl_checkText.T1 := by kernel_rfl
theorem impl_checkText.bits1 : waitsOk impl_checkText.T1.2 impl_checkText.B1 = true := by kernel_rfl
set_option maxHeartbeats 8000000 in
set_option maxRecDepth 100000 in
theorem impl_checkText.calls (k : Nat) (A0_0 : Option Addr) (c0_0 : Nat) (l0_0 : List Int) (a0_1 : Int) (r : ByteArray) (w : World) (hT : Shelf.TabOk w) (hr0_0 : Kd.C (Kd.int .i64) w A0_0 l0_0.length l0_0) (hc0_0 : l0_0.length ≤ c0_0) (h : impl_checkText.f k l0_0 a0_1 = some r) :
 Calls Tryd.prog 61 #[.agg #[.slice A0_0 l0_0.length c0_0, .int .i64 a0_1]] w fun e w' => e = .returned (.string r) ∧ Below w.heap.size w w' := by
 have hu38 := Tryd.underlying38
 have HR0_0 := Aside0.mk hr0_0
 have HC0_0 := Aside0.mk hc0_0
 clear hr0_0 hc0_0
 have HT := Aside0.mk hT
 clear hT
 have HB := Aside0.mk (Below.refl w.heap.size w)
 have H : ((impl_listed.f k l0_0).bind fun t161 => (if t161.size + 1 ≤ 9223372036854775807 then ((strconv_Itoa.f a0_1).bind fun t162 => (if (t161 ++ (⟨#[109]⟩ : ByteArray)).size + t162.size ≤ 9223372036854775807 then (some ((t161 ++ (⟨#[109]⟩ : ByteArray)) ++ t162)) else (none))) else (none))) = some r := h
 clear h
 replace H := Option.bind_eq_some_iff.mp H
 obtain ⟨t161, A20, H⟩ := H
 have A2 := Aside0.mk A20
 clear A20
 by_cases c3 : t161.size + 1 ≤ 9223372036854775807
 rotate_left
 · exact none_ (if_neg c3) H
 rw [if_pos c3] at H
 have c3b0 := eq_true c3
 have c3b1 : decide (t161.size + 1 ≤ 9223372036854775807) = true := decide_eq_true c3
 try have c3b2 : (9223372036854775807 < t161.size + 1) = False := eq_false (Nat.not_lt.2 c3)
 replace H := Option.bind_eq_some_iff.mp H
 obtain ⟨t162, A40, H⟩ := H
 have A4 := Aside0.mk A40
 clear A40
 by_cases c5 : (t161 ++ (⟨#[109]⟩ : ByteArray)).size + t162.size ≤ 9223372036854775807
 rotate_left
 · exact none_ (if_neg c5) H
 rw [if_pos c5] at H
 have c5b0 := eq_true c5
 have c5b1 : decide ((t161 ++ (⟨#[109]⟩ : ByteArray)).size + t162.size ≤ 9223372036854775807) = true := decide_eq_true c5
 try have c5b2 : (9223372036854775807 < (t161 ++ (⟨#[109]⟩ : ByteArray)).size + t162.size) = False := eq_false (Nat.not_lt.2 c5)
 try have c5b3 : (9223372036854775807 < t161.size + 1 + t162.size) = False := eq_false (Nat.not_lt.2 (by simpa only [ByteArray.size_append, lit_size_, List.size_toArray, List.length_cons, List.length_nil, Nat.zero_add, Nat.reduceAdd] using c5))
 obtain rfl := Option.some.inj H
 go_enter Tryd.func61, Tryd.ntmps61
 try go_wp2_with (first | ((with_reducible refine gate_dst (N := 1) rfl ?_); refine box_event ?hg (N := 1) ?hd (cs := #[.slice A0_0 l0_0.length c0_0, .int .i64 a0_1]) (t := 38) ?hr ?_; (case hd => rfl); (case hg => rfl); (case hr => first | (go_simp; done) | (go_simp; rfl)); intro gb160 hg w6 hbox hb; have n0_ := Aside0.mk (below_step z4_1_ hb); have n1_ := Aside0.mk (hbox); have n2_ := Aside0.mk ((by rw [hg]; exact (below_size z4_1_) : w.heap.size ≤ gb160)); have n3_ := Aside0.mk ((by rw [hg]; exact (below_size z4_1_) : w.heap.size ≤ gb160)); clear HB; have HB := n0_; have BK160 := n1_; have GW160 := n2_; have GE160 := n3_; clear n0_ n1_ n2_ n3_; clear hb hbox hg))
 have n0_ := Aside0.mk (blk_drew BK160.out)
 have n1_ := Aside0.mk (below_drew1 HB.out)
 clear BK160
 clear HB
 have BK160 := n0_
 have HB := n1_
 clear n0_ n1_
 refine start_ (n := 9) (S := fun w' => w'.cell? ⟨gb160, 0, none⟩ = some (.slice A0_0 l0_0.length c0_0) ∧ w'.cell? ⟨gb160, 1, none⟩ = some (.int .i64 a0_1)) (ds := []) #[false, false, false, false, false, false, false, false, false] (by kernel_rfl) rfl rfl ⟨(blk_cell BK160.out 0).trans rfl, (blk_cell BK160.out 1).trans rfl⟩ (fun hHeld => ?_); refine with_tabW impl_checkText.tab1 impl_checkText.bits1 (fun HT_ HW_ => ?_)
 generalize w6.drew = w7 at BK160 HB hHeld ⊢
 refine pure_ (i := 0) (N := some 3) (v := ?_) (a' := ?_) #[true, false, false, false, false, false, false, false, false] rfl rfl (any_of HT_.out (by kernel_rfl)) (fun _ _ _ h => h) (Or.inl ⟨by rfl, ?_⟩) ?_ ?_
 rotate_left
 · intro w'
   go_simp
   with_reducible rfl
 rotate_left
 · simp only [Act.put, List.setIfInBounds_toArray, List.set_cons_zero, List.set_cons_succ, i64_w, i32_w]
   rfl
 refine pure_ (i := 4) (N := some 7) (v := ?_) (a' := ?_) #[true, false, false, false, true, false, false, false, false] rfl rfl (any_of HT_.out (by kernel_rfl)) (fun _ _ _ h => h) (Or.inl ⟨by rfl, ?_⟩) ?_ ?_
 rotate_left
 · intro w'
   go_simp
   with_reducible rfl
 rotate_left
 · simp only [Act.put, List.setIfInBounds_toArray, List.set_cons_zero, List.set_cons_succ, i64_w, i32_w]
   rfl
 refine take_ (i := 1) (N := some 4) (v := ?_) (a' := ?_) #[true, true, false, false, true, false, false, false, false] rfl rfl (take_ofW HT_.out HW_.out (by kernel_rfl)) (fun _ _ _ h => h) (Or.inl ⟨by rfl, ?_⟩) hHeld ?_ ?_
 rotate_left
 · rintro w' ⟨s0, s1⟩
   go_simp
   with_reducible rfl
 rotate_left
 · simp only [Act.put, List.setIfInBounds_toArray, List.set_cons_zero, List.set_cons_succ, i64_w, i32_w]
   rfl
 refine take_ (i := 5) (N := some 8) (v := ?_) (a' := ?_) #[true, true, false, false, true, true, false, false, false] rfl rfl (take_ofW HT_.out HW_.out (by kernel_rfl)) (fun _ _ _ h => h) (Or.inl ⟨by rfl, ?_⟩) hHeld ?_ ?_
 rotate_left
 · rintro w' ⟨s0, s1⟩
   go_simp
   with_reducible rfl
 rotate_left
 · simp only [Act.put, List.setIfInBounds_toArray, List.set_cons_zero, List.set_cons_succ, i64_w, i32_w]
   rfl
 refine one_ (i := 2) (N := some 5) #[true, true, true, false, true, true, false, false, false] rfl rfl (one_of HT_.out (by kernel_rfl)) (by decide) (fun K hK => ?_)
 refine goes_ Tryd.func79 (by kernel_rfl) rfl #[.slice A0_0 l0_0.length c0_0] (by rfl) rfl rfl z4_2_ ?_
 with_reducible refine (impl_listed.calls k _ _ l0_0 t161 _ ?side1 ?side2 ?side3 A2.out).mono ?_
 (case side1 => exact Shelf.TabOk.below HT.out z4_9_)
 (case side2 => repeat (first | exact (Kd.C_below HR0_0.out HB.out) | (with_reducible refine Kd.C_alloc ?_ _) | (with_reducible refine Kd.C_drewN ?_ _) | (with_reducible refine Kd.C_drew ?_)))
 (case side3 => exact HC0_0.out)
 rintro e w8 ⟨rfl, hb⟩
 refine ⟨_, rfl, ?_⟩
 have n0_ := Aside0.mk (blk_below (g := gb160) (o := .cells #[.slice A0_0 l0_0.length c0_0, .int .i64 a0_1] 38 (0, 0)) (by (with_reducible repeat (first | refine blk_drewN ?_ _ | refine blk_drew ?_ | refine blk_alloc ?_ _)); exact BK160.out) hb)
 have n1_ := Aside0.mk (below_step z4_9_ hb)
 clear BK160
 clear HB
 have BK160 := n0_
 have HB := n1_
 clear n0_ n1_
 (try clear hb)
 (try clear hb2)
 (try clear hk)
 (try clear hi)
 refine hK.out _ _ ⟨(blk_cell BK160.out 0).trans rfl, (blk_cell BK160.out 1).trans rfl⟩ (fun hHeld => ?_)
 clear hK K
 refine norm_ (a' := ?_) ?_ ?_
 rotate_left
 · show Act.put _ (some 5) _ = _
   simp only [Act.put, List.setIfInBounds_toArray, List.set_cons_zero, List.set_cons_succ, i64_w, i32_w]
   rfl
 refine pure_ (i := 3) (N := some 6) (v := ?_) (a' := ?_) #[true, true, true, true, true, true, false, false, false] rfl rfl (any_of HT_.out (by kernel_rfl)) (fun _ _ _ h => h) (Or.inl ⟨by rfl, ?_⟩) ?_ ?_
 rotate_left
 · intro w'
   go_simp
   with_reducible rfl
 rotate_left
 · simp only [Act.put, List.setIfInBounds_toArray, List.set_cons_zero, List.set_cons_succ, i64_w, i32_w]
   rfl
 refine one_ (i := 6) (N := some 9) #[true, true, true, true, true, true, true, false, false] rfl rfl (one_of HT_.out (by kernel_rfl)) (by decide) (fun K hK => ?_)
 refine goes_ Tryd.func43 (by kernel_rfl) rfl #[.int .i64 a0_1] (by rfl) rfl rfl z4_2_ ?_
 with_reducible refine (strconv_Itoa.calls a0_1 t162 _ ?side1 A4.out).mono ?_
 (case side1 => exact Shelf.TabOk.below HT.out z4_9_)
 rintro e w9 ⟨rfl, hb⟩
 refine ⟨_, rfl, ?_⟩
 have n0_ := Aside0.mk (blk_below (g := gb160) (o := .cells #[.slice A0_0 l0_0.length c0_0, .int .i64 a0_1] 38 (0, 0)) (by (with_reducible repeat (first | refine blk_drewN ?_ _ | refine blk_drew ?_ | refine blk_alloc ?_ _)); exact BK160.out) hb)
 have n1_ := Aside0.mk (below_step z4_9_ hb)
 clear BK160
 clear HB
 have BK160 := n0_
 have HB := n1_
 clear n0_ n1_
 (try clear hb)
 (try clear hb2)
 (try clear hk)
 (try clear hi)
 refine hK.out _ _ ⟨(blk_cell BK160.out 0).trans rfl, (blk_cell BK160.out 1).trans rfl⟩ (fun hHeld => ?_)
 clear hK K
 refine norm_ (a' := ?_) ?_ ?_
 rotate_left
 · show Act.put _ (some 9) _ = _
   simp only [Act.put, List.setIfInBounds_toArray, List.set_cons_zero, List.set_cons_succ, i64_w, i32_w]
   rfl
 refine pure_ (i := 7) (N := some 10) (v := ?_) (a' := ?_) #[true, true, true, true, true, true, true, true, false] rfl rfl (any_of HT_.out (by kernel_rfl)) (fun _ _ _ h => h) (Or.inl ⟨by rfl, ?_⟩) ?_ ?_
 rotate_left
 · intro w'
   go_simp
   with_reducible rfl
 rotate_left
 · simp only [Act.put, List.setIfInBounds_toArray, List.set_cons_zero, List.set_cons_succ, i64_w, i32_w]
   rfl
 refine pure_ (i := 8) (N := some 2) (v := ?_) (a' := ?_) #[true, true, true, true, true, true, true, true, true] rfl rfl (any_of HT_.out (by kernel_rfl)) (fun _ _ _ h => h) (Or.inl ⟨by rfl, ?_⟩) ?_ ?_
 rotate_left
 · intro w'
   go_simp
   with_reducible rfl
 rotate_left
 · simp only [Act.put, List.setIfInBounds_toArray, List.set_cons_zero, List.set_cons_succ, i64_w, i32_w]
   rfl
 refine done_ (done_of HT_.out (by kernel_rfl)) ?_
 try go_wp2
 go_ret
 exact ⟨by first | rfl | (simp [errW_none, errW_some] <;> rfl) | (simp [*, errW_none, errW_some] <;> rfl), by repeat (first | (with_reducible first | exact HB.out | apply below_alloc | apply pw_below_drewN | apply below_drew1 | refine below_set ?_ GE160.out) | exact HB.out)⟩

/-! ### impl_ParseCheck: function 29 -/
def impl_ParseCheck.l0 : Nat → ByteArray → List ByteArray → Int → Int → List Int → Int → Option (List Int × Int × Bool)
 | 0, _, _, _, _, _, _ => none
 | k + 1, x0, x26, x27, x28, x168000, x168001 => if x28 < x27 then (if 0 ≤ x28 then (if x28 < (x26.length : Int) then ((impl_number.f (rdOf ByteArray.empty x26 x28) 11).bind fun bt174 => (if x168000.length < 17592186044416 then (impl_ParseCheck.l0 k x0 x26 x27 (wrap64 (x28 + 1)) (x168000 ++ [bt174.1]) x168001) else (none))) else (none)) else (none)) else ((impl_IsCheck.f x168000 x168001).bind fun t179 => (if t179 = true then ((impl_checkText.f k x168000 x168001).bind fun t180 => (if t180.toList = x0.toList then (some (x168000, x168001, true)) else (some (([] : List Int), 0, false)))) else (some (([] : List Int), 0, false))))
def impl_ParseCheck.f (k : Nat) (a0 : ByteArray) : Option (List Int × Int × Bool) := (strings_Cut.f a0 (⟨#[109]⟩ : ByteArray)).bind fun bt164 => ((impl_number.f bt164.2.1 11).bind fun bt168 => ((strings_Split.f bt164.1 (⟨#[44]⟩ : ByteArray)).bind fun t170 => (impl_ParseCheck.l0 k a0 t170 (t170.length : Int) 0 ([] : List Int) bt168.1)))
theorem impl_ParseCheck.mono_l : ∀ k, (∀ y0 y1 y2 y3 y4 y5, LeO (impl_ParseCheck.l0 k y0 y1 y2 y3 y4 y5) (impl_ParseCheck.l0 (k + 1) y0 y1 y2 y3 y4 y5))
 | 0 => fun _ _ _ _ _ _ r h => by simp [impl_ParseCheck.l0] at h
 | k + 1 => by
  have ih0 := impl_ParseCheck.mono_l k
  intro y0 y1 y2 y3 y4 y5
  unfold impl_ParseCheck.l0
  repeat' first
  | (with_reducible exact ih0 _ _ _ _ _ _)
  | (with_reducible exact impl_checkText.mono _ _ _)
  | (with_reducible exact LeO.refl _)
  | (with_reducible exact LeO.none _)
  | (with_reducible refine LeO.ite ?_ ?_)
  | (with_reducible refine LeO.bind ?_ (fun _ => ?_))
  | exact ih0 _ _ _ _ _ _
  | exact impl_checkText.mono _ _ _
  | exact LeO.none _
  | refine LeO.ite ?_ ?_
  | refine LeO.bind ?_ (fun _ => ?_)
theorem impl_ParseCheck.mono : ∀ a0 k, LeO (impl_ParseCheck.f k a0) (impl_ParseCheck.f (k + 1) a0) := by
 intro a0 k
 have ih0 := impl_ParseCheck.mono_l k
 unfold impl_ParseCheck.f
 repeat' first
  | (with_reducible exact ih0 _ _ _ _ _ _)
  | (with_reducible exact impl_checkText.mono _ _ _)
  | (with_reducible exact LeO.refl _)
  | (with_reducible exact LeO.none _)
  | (with_reducible refine LeO.ite ?_ ?_)
  | (with_reducible refine LeO.bind ?_ (fun _ => ?_))
  | exact ih0 _ _ _ _ _ _
  | exact impl_checkText.mono _ _ _
  | exact LeO.none _
  | refine LeO.ite ?_ ?_
  | refine LeO.bind ?_ (fun _ => ?_)
set_option maxHeartbeats 8000000 in
set_option maxRecDepth 100000 in
theorem impl_ParseCheck.calls (k : Nat) (a0 : ByteArray) (r1 : List Int) (r2 : Int) (r3 : Bool) (w : World) (hT : Shelf.TabOk w) (h : impl_ParseCheck.f k a0 = some (r1, r2, r3)) :
 Calls Tryd.prog 29 #[.string a0] w fun e w' => ∃ v0_ : Value, e = .returned (.tuple #[.agg #[v0_, .int .i64 r2], .bool r3]) ∧ Kd.R (Kd.int .i64) 3 w' w.heap.size (fun _ => True) v0_ r1 ∧ Below w.heap.size w w' := by
 have hu38 := Tryd.underlying38
 have HT := Aside0.mk hT
 clear hT
 have HB := Aside0.mk (Below.refl w.heap.size w)
 have H : ((strings_Cut.f a0 (⟨#[109]⟩ : ByteArray)).bind fun bt164 => ((impl_number.f bt164.2.1 11).bind fun bt168 => ((strings_Split.f bt164.1 (⟨#[44]⟩ : ByteArray)).bind fun t170 => (impl_ParseCheck.l0 k a0 t170 (t170.length : Int) 0 ([] : List Int) bt168.1)))) = some (r1, r2, r3) := h
 clear h
 replace H := Option.bind_eq_some_iff.mp H
 obtain ⟨⟨t164, t165, t166⟩, A20, H⟩ := H
 dsimp only at H
 have A2 := Aside0.mk A20
 clear A20
 replace H := Option.bind_eq_some_iff.mp H
 obtain ⟨⟨t168, t169⟩, A30, H⟩ := H
 dsimp only at H
 have A3 := Aside0.mk A30
 clear A30
 replace H := Option.bind_eq_some_iff.mp H
 obtain ⟨t170, A40, H⟩ := H
 have A4 := Aside0.mk A40
 clear A40
 have H' := Aside0.mk H
 clear H
 go_enter Tryd.func29, Tryd.ntmps29
 go_wp2_with (first | ((with_reducible refine gate_dst (N := 2) rfl ?_); refine box_event ?hg (N := 2) ?hd (cs := #[.slice none 0 0, .int .i64 0]) (t := 38) ?hr ?_; (case hd => rfl); (case hg => rfl); (case hr => first | (go_simp; done) | (go_simp; rfl)); intro gb163 hg w5 hbox hb; have n0_ := Aside0.mk (below_step z4_1_ hb); have n1_ := Aside0.mk (hbox); have n2_ := Aside0.mk ((by rw [hg]; exact (below_size z4_1_) : w.heap.size ≤ gb163)); have n3_ := Aside0.mk ((by rw [hg]; exact (below_size z4_1_) : w.heap.size ≤ gb163)); clear HB; have HB := n0_; have BK163 := n1_; have GW163 := n2_; have GE163 := n3_; clear n0_ n1_ n2_ n3_; clear hb hbox hg) | ((with_reducible refine gate_callee (f := 57) rfl ?_); refine goesL_ (some 14) rfl rfl Tryd.func57 (by kernel_rfl) rfl #[.string a0, .string (⟨#[109]⟩ : ByteArray)] rfl z4_2_ ?_; (with_reducible refine (strings_Cut.calls a0 (⟨#[109]⟩ : ByteArray) t164 t165 t166 _ ?side1 A2.out).mono ?_); (case side1 => exact Shelf.TabOk.below HT.out z4_7_); rintro e w6 ⟨rfl, hb⟩; refine ⟨_, rfl, ?_⟩; have n0_ := Aside0.mk (blk_below (g := gb163) (o := .cells #[.slice none 0 0, .int .i64 0] 38 (0, 0)) z4_3_ hb); have n1_ := Aside0.mk (below_step z4_7_ hb); clear BK163; clear HB; have BK163 := n0_; have HB := n1_; clear n0_ n1_; (try clear hb); (try clear hb2); (try clear hk); (try clear hi)) | ((with_reducible refine gate_dst (N := 7) rfl ?_); refine box_event ?hg (N := 7) ?hd (cs := #[.slice none 0 0, .int .i64 0]) (t := 38) ?hr ?_; (case hd => rfl); (case hg => rfl); (case hr => first | (go_simp; done) | (go_simp; rfl)); intro gb167 hg w7 hbox hb; have n0_ := Aside0.mk (blk_below (g := gb163) (o := .cells #[.slice none 0 0, .int .i64 0] 38 (0, 0)) z4_3_ hb); have n1_ := Aside0.mk (below_step z4_7_ hb); have n2_ := Aside0.mk (hbox); have n3_ := Aside0.mk ((by rw [hg]; exact (below_size z4_7_) : w.heap.size ≤ gb167)); have n4_ := Aside0.mk ((by rw [hg]; exact (below_size z4_7_) : w.heap.size ≤ gb167)); have n5_ := Aside0.mk ((by rw [hg]; exact Nat.ne_of_lt (blk_lt (g := gb163) (o := .cells #[.slice none 0 0, .int .i64 0] 38 (0, 0)) z4_3_) : gb163 ≠ gb167)); have n6_ := Aside0.mk ((by rw [hg]; exact Nat.ne_of_gt (blk_lt (g := gb163) (o := .cells #[.slice none 0 0, .int .i64 0] 38 (0, 0)) z4_3_) : gb167 ≠ gb163)); clear BK163; clear HB; have BK163 := n0_; have HB := n1_; have BK167 := n2_; have GW167 := n3_; have GE167 := n4_; have NB163_167 := n5_; have NB167_163 := n6_; clear n0_ n1_ n2_ n3_ n4_ n5_ n6_; clear hb hbox hg; have hnb8 := NB167_163.out; have hnc8 := NB163_167.out; have hcz9_0 : w7.cell? ⟨gb167, 0, none⟩ = some (.slice none 0 0) := (blk_cell BK167.out 0).trans rfl; have hcz9_1 : w7.cell? ⟨gb167, 1, none⟩ = some (.int .i64 0) := (blk_cell BK167.out 1).trans rfl; have hfz9_0 := blk_frozen BK167.out 0; have hfz9_1 := blk_frozen BK167.out 1) | ((with_reducible refine gate_callee (f := 58) rfl ?_); refine goesL_ (some 21) rfl rfl Tryd.func58 (by kernel_rfl) rfl #[.string t165, .int .i64 11] rfl z4_2_ ?_; (with_reducible refine (impl_number.calls t165 11 t168 t169 _ ?side1 A3.out).mono ?_); (case side1 => exact Shelf.TabOk.below HT.out z4_0_); rintro e w10 ⟨rfl, hb⟩; refine ⟨_, rfl, ?_⟩; have n0_ := Aside0.mk (blk_below (g := gb163) (o := .cells #[.slice none 0 0, .int .i64 0] 38 (0, 0)) (by (with_reducible repeat (first | refine blk_drewN ?_ _ | refine blk_drew ?_ | refine blk_alloc ?_ _)); refine blk_far ?_ NB163_167.out _; (with_reducible repeat (first | refine blk_drewN ?_ _ | refine blk_drew ?_ | refine blk_alloc ?_ _)); refine blk_far ?_ NB163_167.out _; (with_reducible repeat (first | refine blk_drewN ?_ _ | refine blk_drew ?_ | refine blk_alloc ?_ _)); exact BK163.out) hb); have n1_ := Aside0.mk (blk_below (g := gb167) (o := .cells #[.slice none 0 0, .int .i64 0] 38 (0, 0)) (by (with_reducible repeat (first | refine blk_drewN ?_ _ | refine blk_drew ?_ | refine blk_alloc ?_ _)); refine blk_put (cs := #[.slice none 0 0, .int .i64 0]) ?_ 1 _ rfl; (with_reducible repeat (first | refine blk_drewN ?_ _ | refine blk_drew ?_ | refine blk_alloc ?_ _)); refine blk_put (cs := #[.slice none 0 0, .int .i64 0]) ?_ 0 _ rfl; (with_reducible repeat (first | refine blk_drewN ?_ _ | refine blk_drew ?_ | refine blk_alloc ?_ _)); exact BK167.out) hb); have n2_ := Aside0.mk (below_step z4_0_ hb); clear BK163; clear BK167; clear HB; have BK163 := n0_; have BK167 := n1_; have HB := n2_; clear n0_ n1_ n2_; (try clear hb); (try clear hb2); (try clear hk); (try clear hi); have hcz11_0 : w10.cell? ⟨gb167, 0, none⟩ = some (.slice none 0 0) := (blk_cell BK167.out 0).trans rfl; have hcz11_1 : w10.cell? ⟨gb167, 1, none⟩ = some (.int .i64 0) := (blk_cell BK167.out 1).trans rfl; have hfz11_0 := blk_frozen BK167.out 0; have hfz11_1 := blk_frozen BK167.out 1) | ((with_reducible refine gate_callee (f := 59) rfl ?_); refine goesL_ (some 26) rfl rfl Tryd.func59 (by kernel_rfl) rfl #[.string t164, .string (⟨#[44]⟩ : ByteArray)] rfl z4_2_ ?_; (with_reducible refine (strings_Split.calls t164 (⟨#[44]⟩ : ByteArray) t170 _ ?side1 A4.out).mono ?_); (case side1 => exact Shelf.TabOk.below HT.out z4_0_); rintro e w12 ⟨v171, rfl, ho0, hb⟩; refine ⟨_, rfl, ?_⟩; have n0_ := Aside0.mk (Kd.R_lower ho0 (below_size z4_0_)); have n1_ := Aside0.mk (blk_below (g := gb163) (o := .cells #[.slice none 0 0, .int .i64 0] 38 (0, 0)) (by (with_reducible repeat (first | refine blk_drewN ?_ _ | refine blk_drew ?_ | refine blk_alloc ?_ _)); refine blk_far ?_ NB163_167.out _; (with_reducible repeat (first | refine blk_drewN ?_ _ | refine blk_drew ?_ | refine blk_alloc ?_ _)); exact BK163.out) hb); have n2_ := Aside0.mk (blk_below (g := gb167) (o := .cells #[.slice none 0 0, .int .i64 t168] 38 (0, 0)) (by (with_reducible repeat (first | refine blk_drewN ?_ _ | refine blk_drew ?_ | refine blk_alloc ?_ _)); refine blk_put (cs := #[.slice none 0 0, .int .i64 0]) ?_ 1 _ rfl; (with_reducible repeat (first | refine blk_drewN ?_ _ | refine blk_drew ?_ | refine blk_alloc ?_ _)); exact BK167.out) hb); have n3_ := Aside0.mk (below_step z4_0_ hb); clear BK163; clear BK167; clear HB; have HO172 := n0_; have BK163 := n1_; have BK167 := n2_; have HB := n3_; clear n0_ n1_ n2_ n3_; (try clear hb); (try clear hb2); (try clear hk); (try clear hi); (try clear ho0); obtain ⟨Ao13, co13, eo13⟩ := Kd.R_slice HO172.out; subst eo13))
 go_loopg [28] k (fun kq v28 w' => ∃ (x28_1 : Int) (x168000_1 : List Int) (u168000 : Value), v28 = .int .i64 x28_1 ∧ Aside0 (impl_ParseCheck.l0 kq a0 t170 (t170.length : Int) x28_1 x168000_1 t168 = some (r1, r2, r3)) ∧ Aside0 (kq ≤ k) ∧ Aside0 (Kd.R Kd.string 9 w' w.heap.size (fun _ => True) (.slice Ao13 t170.length co13) t170) ∧ Aside0 (Kd.R (Kd.int .i64) 3 w' w.heap.size (fun _ => True) u168000 x168000_1) ∧ Aside0 (w'.heap[gb163]? = some (.cells #[(.slice none 0 0), .int .i64 0] 38 (0, 0))) ∧ Aside0 (w'.heap[gb167]? = some (.cells #[u168000, .int .i64 t168] 38 (0, 0))) ∧ Aside0 (Below w.heap.size w w'))
 case atStart => exact ⟨(0), (([] : List Int)), (.slice none 0 0), (by first | rfl | (simp; done) | (simp [*]; done)), H', ⟨Nat.le_refl _⟩, ⟨by (with_reducible repeat (first | apply Kd.R_alloc | apply Kd.R_drewN | apply Kd.R_drew)); exact HO172.out⟩, ⟨by first | exact Kd.R_nil _ _ _ _ _ | exact Kd.N_nil _ _ _ _ _ | exact Kd.V_nil _ _ _ _ _ | exact Kd.Q_nil _ _ _ _ _ | exact Kd.S_nil _ _ _ _ _⟩, ⟨by (with_reducible repeat (first | refine blk_drewN ?_ _ | refine blk_drew ?_ | refine blk_alloc ?_ _)); exact BK163.out⟩, ⟨by (with_reducible repeat (first | refine blk_drewN ?_ _ | refine blk_drew ?_ | refine blk_alloc ?_ _)); exact BK167.out⟩, ⟨by repeat (first | (with_reducible first | exact HB.out | apply below_alloc | apply pw_below_drewN | apply below_drew1 | refine below_set ?_ GE163.out | refine below_set ?_ GE167.out) | exact HB.out)⟩⟩
 case round =>
  clear H'
  (try clear c2);(try clear p2);(try clear c5);(try clear c8);(try clear hcz11_0);(try clear hcz11_1);(try clear hcz9_0);(try clear hcz9_1);(try clear hfz11_0);(try clear hfz11_1);(try clear hfz9_0);(try clear hfz9_1)
  obtain ⟨x28_1, x168000_1, u168000, rfl, HA, HK1, HO_26, HO_168000, BK163, BK167, HB⟩ := hrel
  cases gk with
  | zero => exact absurd HA.out (by simp [impl_ParseCheck.l0])
  | succ k1 =>
   have H := HA.out
   clear HA
   simp only [impl_ParseCheck.l0] at H
   by_cases c14 : x28_1 < (t170.length : Int)
   · rw [if_pos c14] at H
     have c14b0 : decide (x28_1 < (t170.length : Int)) = true := decide_eq_true c14
     clear c14
     by_cases c15 : 0 ≤ x28_1
     rotate_left
     · exact none_ (if_neg c15) H
     rw [if_pos c15] at H
     have c15b0 : decide (0 ≤ x28_1) = true := decide_eq_true c15
     clear c15
     by_cases c16 : x28_1 < (t170.length : Int)
     rotate_left
     · exact none_ (if_neg c16) H
     rw [if_pos c16] at H
     have c16b0 : decide (x28_1 < (t170.length : Int)) = true := decide_eq_true c16
     clear c16
     replace H := Option.bind_eq_some_iff.mp H
     obtain ⟨⟨t174, t175⟩, A170, H⟩ := H
     dsimp only at H
     have A17 := Aside0.mk A170
     clear A170
     by_cases c18 : x168000_1.length < 17592186044416
     rotate_left
     · exact none_ (if_neg c18) H
     rw [if_pos c18] at H
     have LMc18 := Aside0.mk c18
     clear c18
     obtain ⟨y176, hy176⟩ : ∃ y_ : List Int, y_ = (x168000_1 ++ [t174]) := ⟨_, rfl⟩
     replace H : (impl_ParseCheck.l0 k1 a0 t170 (t170.length : Int) (wrap64 (x28_1 + 1)) y176 t168) = some (r1, r2, r3) := by first | (rw [hy176]; with_reducible exact H) | (have H2_ := (Option.bind_some _ _).symm.trans H; rw [hy176]; with_reducible exact H2_) | (have H2_ := (Option.bind_some _ _).symm.trans H; with_reducible exact H2_) | with_reducible exact H | (rw [hy176]; exact H) | exact H
     have Ny176 := Aside0.mk hy176
     clear hy176
     have H' := Aside0.mk H
     clear H
     have p173 : 0 ≤ (x28_1 : Int) := of_decide_eq_true (by first | (with_reducible assumption) | assumption)
     have q173 : x28_1 < (t170.length : Int) := of_decide_eq_true (by first | (with_reducible assumption) | assumption)
     obtain ⟨ad173, e173, hx173_0⟩ := Kd.at_string (Kd.R_reads' HO_26.out).2.2 x28_1 p173 q173
     cases e173
     replace p173 := eq_true p173
     replace q173 := eq_true q173
     go_wp2_with (first | ((with_reducible refine gate_callee (f := 58) rfl ?_); refine goesL_ (some 34) rfl rfl Tryd.func58 (by kernel_rfl) rfl #[.string (rdOf ByteArray.empty t170 x28_1), .int .i64 11] rfl z4_2_ ?_; (with_reducible refine (impl_number.calls (rdOf ByteArray.empty t170 x28_1) 11 t174 t175 _ ?side1 A17.out).mono ?_); (case side1 => exact Shelf.TabOk.below HT.out z4_0_); rintro e w19 ⟨rfl, hb⟩; refine ⟨_, rfl, ?_⟩; have n0_ := Aside0.mk (Kd.R_below z4_8_ hb); have n1_ := Aside0.mk (Kd.R_below z4_5_ hb); have n2_ := Aside0.mk (blk_below (g := gb163) (o := .cells #[.slice none 0 0, .int .i64 0] 38 (0, 0)) z4_3_ hb); have n3_ := Aside0.mk (blk_below (g := gb167) (o := .cells #[u168000, .int .i64 t168] 38 (0, 0)) z4_6_ hb); have n4_ := Aside0.mk (below_step z4_0_ hb); clear HO_26; clear HO_168000; clear BK163; clear BK167; clear HB; have HO_26 := n0_; have HO_168000 := n1_; have BK163 := n2_; have BK167 := n3_; have HB := n4_; clear n0_ n1_ n2_ n3_ n4_; (try clear hb); (try clear hb2); (try clear hk); (try clear hi); have hnb20 := NB167_163.out; have hnc20 := NB163_167.out; have hcz21_0 : w19.cell? ⟨gb167, 0, none⟩ = some (u168000) := (blk_cell BK167.out 0).trans rfl; have hcz21_1 : w19.cell? ⟨gb167, 1, none⟩ = some (.int .i64 t168) := (blk_cell BK167.out 1).trans rfl; have hfz21_0 := blk_frozen BK167.out 0; have hfz21_1 := blk_frozen BK167.out 1) | ((with_reducible refine gate_builtin (b := .append) (xs := #[.tmp 38, .tmp 40]) rfl ?_); at_builtin; refine Kd.R_append (Kd.int .i64) (w0 := w) w.heap.size rfl (.tmp 38) (.tmp 40) 25 3 (.int .i64 0) 8 rfl Tryd.underlying25 info3 rfl (by decide) (by omega) u168000 x168000_1 t174 [.int .i64 t174] (fun _ => True) (fun _ => False) rfl rfl ?aP (fun _ hk => hk.elim) ?aF ?aO ?aB ?aS ?aL ?_; (case aP => exact rfl); (case aB => exact z4_0_); (case aF => exact (fun _ _ => trivial)); (case aO => exact z4_5_); (case aS => exact (below_size z4_0_)); (case aL => have := LMc18.out; omega); intro v177 w22 ho hb hg hat; rw [← Ny176.out] at ho; have n0_ := Aside0.mk (Kd.R_over' z4_8_ (Kd.R_typed z4_5_) (by decide) hg); have n1_ := Aside0.mk (blk_grown (g := gb163) (o := .cells #[.slice none 0 0, .int .i64 0] 38 (0, 0)) z4_3_ hg (Kd.R_ne HO_168000.out BK163.out (by decide))); have n2_ := Aside0.mk (blk_grown (g := gb167) (o := .cells #[u168000, .int .i64 t168] 38 (0, 0)) z4_6_ hg (Kd.R_ne HO_168000.out BK167.out (by decide))); have n3_ := Aside0.mk (hb); have n4_ := Aside0.mk (ho); clear HO_26; clear BK163; clear BK167; clear HB; clear HO_168000; have HO_26 := n0_; have BK163 := n1_; have BK167 := n2_; have HB := n3_; have HO178 := n4_; clear n0_ n1_ n2_ n3_ n4_; clear ho hb hg hat; obtain ⟨Ao23, co23, eo23⟩ := Kd.R_slice HO178.out; subst eo23; have hcz24_0 : w22.cell? ⟨gb167, 0, none⟩ = some (u168000) := (blk_cell BK167.out 0).trans rfl; have hcz24_1 : w22.cell? ⟨gb167, 1, none⟩ = some (.int .i64 t168) := (blk_cell BK167.out 1).trans rfl; have hfz24_0 := blk_frozen BK167.out 0; have hfz24_1 := blk_frozen BK167.out 1))
     go_roundg k1
     case measure => have := HK1.out; omega
     case rel => exact ⟨(wrap64 (x28_1 + 1)), (y176), (.slice Ao23 y176.length co23), (by first | rfl | (simp; done) | (simp [*]; done)), H', ⟨by have := HK1.out; omega⟩, ⟨by (with_reducible repeat (first | apply Kd.R_alloc | apply Kd.R_drewN | apply Kd.R_drew)); exact Kd.R_mono (Kd.R_far (p := ⟨gb167, 0, none⟩) (Kd.R_types HO_26.out BK167.out (by decide)) (fun _ hk => hk.2) (.slice Ao23 y176.length co23)) (fun _ hk => trivial)⟩, ⟨by (with_reducible repeat (first | apply Kd.R_alloc | apply Kd.R_drewN | apply Kd.R_drew)); exact Kd.R_mono (Kd.R_far (p := ⟨gb167, 0, none⟩) (Kd.R_types HO178.out BK167.out (by decide)) (fun _ hk => hk.2) (.slice Ao23 y176.length co23)) (fun _ hk => trivial)⟩, ⟨by (with_reducible repeat (first | refine blk_drewN ?_ _ | refine blk_drew ?_ | refine blk_alloc ?_ _)); refine blk_far ?_ NB163_167.out _; (with_reducible repeat (first | refine blk_drewN ?_ _ | refine blk_drew ?_ | refine blk_alloc ?_ _)); exact BK163.out⟩, ⟨by (with_reducible repeat (first | refine blk_drewN ?_ _ | refine blk_drew ?_ | refine blk_alloc ?_ _)); refine blk_put (cs := #[u168000, .int .i64 t168]) ?_ 0 _ rfl; (with_reducible repeat (first | refine blk_drewN ?_ _ | refine blk_drew ?_ | refine blk_alloc ?_ _)); exact BK167.out⟩, ⟨by repeat (first | (with_reducible first | exact HB.out | apply below_alloc | apply pw_below_drewN | apply below_drew1 | refine below_set ?_ GE163.out | refine below_set ?_ GE167.out) | exact HB.out)⟩⟩
   rw [if_neg c14] at H
   have c14b0 : decide (x28_1 < (t170.length : Int)) = false := decide_eq_false c14
   clear c14
   replace H := Option.bind_eq_some_iff.mp H
   obtain ⟨t179, A250, H⟩ := H
   have A25 := Aside0.mk A250
   clear A250
   by_cases c26 : t179 = true
   · subst c26
     have H1 : ((impl_checkText.f k1 x168000_1 t168).bind fun t180 => (if t180.toList = a0.toList then (some (x168000_1, t168, true)) else (some (([] : List Int), 0, false)))) = some (r1, r2, r3) := by rw [if_pos rfl] at H; exact H
     clear H
     have H := H1
     clear H1
     replace H := Option.bind_eq_some_iff.mp H
     obtain ⟨t180, A270, H⟩ := H
     have A27 := Aside0.mk A270
     clear A270
     by_cases c28 : t180.toList = a0.toList
     · rw [if_pos c28] at H
       have c28b0 : (t180.toList == a0.toList) = true := beq_iff_eq.mpr c28
       have c28b1 : (t180.toList != a0.toList) = false := bne_eq_false_iff_eq.mpr c28
       clear c28
       simp only [Option.some.injEq, Prod.mk.injEq] at H
       obtain ⟨rfl, rfl, rfl⟩ := H
       have hnb29 := NB167_163.out
       have hnc29 := NB163_167.out
       have hcz30_0 : wr.cell? ⟨gb167, 0, none⟩ = some (u168000) := (blk_cell BK167.out 0).trans rfl
       have hcz30_1 : wr.cell? ⟨gb167, 1, none⟩ = some (.int .i64 t168) := (blk_cell BK167.out 1).trans rfl
       have hfz30_0 := blk_frozen BK167.out 0
       have hfz30_1 := blk_frozen BK167.out 1
       obtain ⟨Ao31, co31, eo31⟩ := Kd.R_slice HO_168000.out
       subst eo31
       go_wp2_with (first | ((with_reducible refine gate_callee (f := 60) rfl ?_); refine goesL_ (some 45) rfl rfl Tryd.func60 (by kernel_rfl) rfl #[.agg #[.slice Ao31 x168000_1.length co31, .int .i64 t168]] rfl z4_2_ ?_; (with_reducible refine (impl_IsCheck.calls _ _ x168000_1 t168 true _ ?side1 ?side2 A25.out).mono ?_); (case side1 => repeat (first | exact (Kd.R_reads' HO_168000.out).2.2 | (with_reducible refine Kd.C_alloc ?_ _) | (with_reducible refine Kd.C_drewN ?_ _) | (with_reducible refine Kd.C_drew ?_))); (case side2 => exact (Kd.R_reads' HO_168000.out).2.1); rintro e w32 ⟨rfl, hb⟩; refine ⟨_, rfl, ?_⟩; have n0_ := Aside0.mk (Kd.R_below z4_8_ hb); have n1_ := Aside0.mk (Kd.R_below z4_5_ hb); have n2_ := Aside0.mk (blk_below (g := gb163) (o := .cells #[.slice none 0 0, .int .i64 0] 38 (0, 0)) z4_3_ hb); have n3_ := Aside0.mk (blk_below (g := gb167) (o := .cells #[.slice Ao31 x168000_1.length co31, .int .i64 t168] 38 (0, 0)) z4_6_ hb); have n4_ := Aside0.mk (below_step z4_0_ hb); clear HO_26; clear HO_168000; clear BK163; clear BK167; clear HB; have HO_26 := n0_; have HO_168000 := n1_; have BK163 := n2_; have BK167 := n3_; have HB := n4_; clear n0_ n1_ n2_ n3_ n4_; (try clear hb); (try clear hb2); (try clear hk); (try clear hi); have hcz33_0 : w32.cell? ⟨gb167, 0, none⟩ = some (.slice Ao31 x168000_1.length co31) := (blk_cell BK167.out 0).trans rfl; have hcz33_1 : w32.cell? ⟨gb167, 1, none⟩ = some (.int .i64 t168) := (blk_cell BK167.out 1).trans rfl; have hfz33_0 := blk_frozen BK167.out 0; have hfz33_1 := blk_frozen BK167.out 1) | (go_at_call 61; (with_reducible refine (impl_checkText.calls k1 _ _ x168000_1 t168 t180 _ ?side1 ?side2 ?side3 A27.out).mono ?_); (case side1 => exact Shelf.TabOk.below HT.out z4_0_); (case side2 => repeat (first | exact (Kd.R_reads' HO_168000.out).2.2 | (with_reducible refine Kd.C_alloc ?_ _) | (with_reducible refine Kd.C_drewN ?_ _) | (with_reducible refine Kd.C_drew ?_))); (case side3 => exact (Kd.R_reads' HO_168000.out).2.1); rintro e w34 ⟨rfl, hb⟩; have n0_ := Aside0.mk (Kd.R_below z4_8_ hb); have n1_ := Aside0.mk (Kd.R_below z4_5_ hb); have n2_ := Aside0.mk (blk_below (g := gb163) (o := .cells #[.slice none 0 0, .int .i64 0] 38 (0, 0)) z4_3_ hb); have n3_ := Aside0.mk (blk_below (g := gb167) (o := .cells #[.slice Ao31 x168000_1.length co31, .int .i64 t168] 38 (0, 0)) z4_6_ hb); have n4_ := Aside0.mk (below_step z4_0_ hb); clear HO_26; clear HO_168000; clear BK163; clear BK167; clear HB; have HO_26 := n0_; have HO_168000 := n1_; have BK163 := n2_; have BK167 := n3_; have HB := n4_; clear n0_ n1_ n2_ n3_ n4_; (try clear hb); (try clear hb2); (try clear hk); (try clear hi); have hcz35_0 : w34.cell? ⟨gb167, 0, none⟩ = some (.slice Ao31 x168000_1.length co31) := (blk_cell BK167.out 0).trans rfl; have hcz35_1 : w34.cell? ⟨gb167, 1, none⟩ = some (.int .i64 t168) := (blk_cell BK167.out 1).trans rfl; have hfz35_0 := blk_frozen BK167.out 0; have hfz35_1 := blk_frozen BK167.out 1; have hcz36_0 : w34.cell? ⟨gb163, 0, none⟩ = some (.slice none 0 0) := (blk_cell BK163.out 0).trans rfl; have hcz36_1 : w34.cell? ⟨gb163, 1, none⟩ = some (.int .i64 0) := (blk_cell BK163.out 1).trans rfl; have hfz36_0 := blk_frozen BK163.out 0; have hfz36_1 := blk_frozen BK163.out 1))
       refine bodyPost_ret (results_ct rfl _ _ gb163 38 #[.slice Ao31 x168000_1.length co31, .int .i64 t168] (0, 0) _ rfl (by (with_reducible repeat (first | refine blk_drewN ?_ _ | refine blk_drew ?_ | refine blk_alloc ?_ _)); refine blk_put (cs := #[.slice Ao31 x168000_1.length co31, .int .i64 0]) ?_ 1 _ rfl; (with_reducible repeat (first | refine blk_drewN ?_ _ | refine blk_drew ?_ | refine blk_alloc ?_ _)); refine blk_put (cs := #[.slice none 0 0, .int .i64 0]) ?_ 0 _ rfl; (with_reducible repeat (first | refine blk_drewN ?_ _ | refine blk_drew ?_ | refine blk_alloc ?_ _)); exact BK163.out) Tryd.underlying38 rfl (by kernel_rfl)) rfl ?_
       exact ⟨_, by first | rfl | (simp [errW_none, errW_some] <;> rfl) | (simp [*, errW_none, errW_some] <;> rfl), by (with_reducible repeat (first | apply Kd.R_alloc | apply Kd.R_drewN | apply Kd.R_drew)); exact Kd.R_mono (Kd.R_far (p := ⟨gb163, 1, none⟩) (Kd.R_far (p := ⟨gb163, 0, none⟩) (Kd.R_types HO_168000.out BK163.out (by decide)) (fun _ hk => hk.2) (.slice Ao31 x168000_1.length co31)) (fun _ hk => hk.2) (.int .i64 t168)) (fun _ hk => trivial), by repeat (first | (with_reducible first | exact HB.out | apply below_alloc | apply pw_below_drewN | apply below_drew1 | refine below_set ?_ GE163.out | refine below_set ?_ GE167.out) | exact HB.out)⟩
     rw [if_neg c28] at H
     have c28b0 : (t180.toList == a0.toList) = false := beq_eq_false_iff_ne.mpr c28
     have c28b1 : (t180.toList != a0.toList) = true := bne_iff_ne.mpr c28
     simp only [Option.some.injEq, Prod.mk.injEq] at H
     obtain ⟨rfl, rfl, rfl⟩ := H
     have hnb37 := NB167_163.out
     have hnc37 := NB163_167.out
     have hcz38_0 : wr.cell? ⟨gb167, 0, none⟩ = some (u168000) := (blk_cell BK167.out 0).trans rfl
     have hcz38_1 : wr.cell? ⟨gb167, 1, none⟩ = some (.int .i64 t168) := (blk_cell BK167.out 1).trans rfl
     have hfz38_0 := blk_frozen BK167.out 0
     have hfz38_1 := blk_frozen BK167.out 1
     obtain ⟨Ao39, co39, eo39⟩ := Kd.R_slice HO_168000.out
     subst eo39
     go_wp2_with (first | ((with_reducible refine gate_callee (f := 60) rfl ?_); refine goesL_ (some 45) rfl rfl Tryd.func60 (by kernel_rfl) rfl #[.agg #[.slice Ao39 x168000_1.length co39, .int .i64 t168]] rfl z4_2_ ?_; (with_reducible refine (impl_IsCheck.calls _ _ x168000_1 t168 true _ ?side1 ?side2 A25.out).mono ?_); (case side1 => repeat (first | exact (Kd.R_reads' HO_168000.out).2.2 | (with_reducible refine Kd.C_alloc ?_ _) | (with_reducible refine Kd.C_drewN ?_ _) | (with_reducible refine Kd.C_drew ?_))); (case side2 => exact (Kd.R_reads' HO_168000.out).2.1); rintro e w40 ⟨rfl, hb⟩; refine ⟨_, rfl, ?_⟩; have n0_ := Aside0.mk (Kd.R_below z4_8_ hb); have n1_ := Aside0.mk (Kd.R_below z4_5_ hb); have n2_ := Aside0.mk (blk_below (g := gb163) (o := .cells #[.slice none 0 0, .int .i64 0] 38 (0, 0)) z4_3_ hb); have n3_ := Aside0.mk (blk_below (g := gb167) (o := .cells #[.slice Ao39 x168000_1.length co39, .int .i64 t168] 38 (0, 0)) z4_6_ hb); have n4_ := Aside0.mk (below_step z4_0_ hb); clear HO_26; clear HO_168000; clear BK163; clear BK167; clear HB; have HO_26 := n0_; have HO_168000 := n1_; have BK163 := n2_; have BK167 := n3_; have HB := n4_; clear n0_ n1_ n2_ n3_ n4_; (try clear hb); (try clear hb2); (try clear hk); (try clear hi); have hcz41_0 : w40.cell? ⟨gb167, 0, none⟩ = some (.slice Ao39 x168000_1.length co39) := (blk_cell BK167.out 0).trans rfl; have hcz41_1 : w40.cell? ⟨gb167, 1, none⟩ = some (.int .i64 t168) := (blk_cell BK167.out 1).trans rfl; have hfz41_0 := blk_frozen BK167.out 0; have hfz41_1 := blk_frozen BK167.out 1) | (go_at_call 61; (with_reducible refine (impl_checkText.calls k1 _ _ x168000_1 t168 t180 _ ?side1 ?side2 ?side3 A27.out).mono ?_); (case side1 => exact Shelf.TabOk.below HT.out z4_0_); (case side2 => repeat (first | exact (Kd.R_reads' HO_168000.out).2.2 | (with_reducible refine Kd.C_alloc ?_ _) | (with_reducible refine Kd.C_drewN ?_ _) | (with_reducible refine Kd.C_drew ?_))); (case side3 => exact (Kd.R_reads' HO_168000.out).2.1); rintro e w42 ⟨rfl, hb⟩; have n0_ := Aside0.mk (Kd.R_below z4_8_ hb); have n1_ := Aside0.mk (Kd.R_below z4_5_ hb); have n2_ := Aside0.mk (blk_below (g := gb163) (o := .cells #[.slice none 0 0, .int .i64 0] 38 (0, 0)) z4_3_ hb); have n3_ := Aside0.mk (blk_below (g := gb167) (o := .cells #[.slice Ao39 x168000_1.length co39, .int .i64 t168] 38 (0, 0)) z4_6_ hb); have n4_ := Aside0.mk (below_step z4_0_ hb); clear HO_26; clear HO_168000; clear BK163; clear BK167; clear HB; have HO_26 := n0_; have HO_168000 := n1_; have BK163 := n2_; have BK167 := n3_; have HB := n4_; clear n0_ n1_ n2_ n3_ n4_; (try clear hb); (try clear hb2); (try clear hk); (try clear hi); have hcz43_0 : w42.cell? ⟨gb163, 0, none⟩ = some (.slice none 0 0) := (blk_cell BK163.out 0).trans rfl; have hcz43_1 : w42.cell? ⟨gb163, 1, none⟩ = some (.int .i64 0) := (blk_cell BK163.out 1).trans rfl; have hfz43_0 := blk_frozen BK163.out 0; have hfz43_1 := blk_frozen BK163.out 1))
     refine bodyPost_ret (results_ct rfl _ _ gb163 38 #[.slice none 0 0, .int .i64 0] (0, 0) _ rfl z4_4_ Tryd.underlying38 rfl (by kernel_rfl)) rfl ?_
     exact ⟨_, by first | rfl | (simp [errW_none, errW_some] <;> rfl) | (simp [*, errW_none, errW_some] <;> rfl), by first | exact Kd.R_nil _ _ _ _ _ | exact Kd.N_nil _ _ _ _ _ | exact Kd.V_nil _ _ _ _ _ | exact Kd.Q_nil _ _ _ _ _ | exact Kd.S_nil _ _ _ _ _, by repeat (first | (with_reducible first | exact HB.out | apply below_alloc | apply pw_below_drewN | apply below_drew1 | refine below_set ?_ GE163.out | refine below_set ?_ GE167.out) | exact HB.out)⟩
   replace c26 := Bool.eq_false_iff.mpr c26
   subst c26
   have H1 : (some (([] : List Int), 0, false)) = some (r1, r2, r3) := by rw [if_neg (show ¬ (false = true) by decide)] at H; exact H
   clear H
   have H := H1
   clear H1
   simp only [Option.some.injEq, Prod.mk.injEq] at H
   obtain ⟨rfl, rfl, rfl⟩ := H
   have hnb44 := NB167_163.out
   have hnc44 := NB163_167.out
   have hcz45_0 : wr.cell? ⟨gb167, 0, none⟩ = some (u168000) := (blk_cell BK167.out 0).trans rfl
   have hcz45_1 : wr.cell? ⟨gb167, 1, none⟩ = some (.int .i64 t168) := (blk_cell BK167.out 1).trans rfl
   have hfz45_0 := blk_frozen BK167.out 0
   have hfz45_1 := blk_frozen BK167.out 1
   obtain ⟨Ao46, co46, eo46⟩ := Kd.R_slice HO_168000.out
   subst eo46
   go_wp2_with (first | ((with_reducible refine gate_callee (f := 60) rfl ?_); refine goesL_ (some 45) rfl rfl Tryd.func60 (by kernel_rfl) rfl #[.agg #[.slice Ao46 x168000_1.length co46, .int .i64 t168]] rfl z4_2_ ?_; (with_reducible refine (impl_IsCheck.calls _ _ x168000_1 t168 false _ ?side1 ?side2 A25.out).mono ?_); (case side1 => repeat (first | exact (Kd.R_reads' HO_168000.out).2.2 | (with_reducible refine Kd.C_alloc ?_ _) | (with_reducible refine Kd.C_drewN ?_ _) | (with_reducible refine Kd.C_drew ?_))); (case side2 => exact (Kd.R_reads' HO_168000.out).2.1); rintro e w47 ⟨rfl, hb⟩; refine ⟨_, rfl, ?_⟩; have n0_ := Aside0.mk (Kd.R_below z4_8_ hb); have n1_ := Aside0.mk (Kd.R_below z4_5_ hb); have n2_ := Aside0.mk (blk_below (g := gb163) (o := .cells #[.slice none 0 0, .int .i64 0] 38 (0, 0)) z4_3_ hb); have n3_ := Aside0.mk (blk_below (g := gb167) (o := .cells #[.slice Ao46 x168000_1.length co46, .int .i64 t168] 38 (0, 0)) z4_6_ hb); have n4_ := Aside0.mk (below_step z4_0_ hb); clear HO_26; clear HO_168000; clear BK163; clear BK167; clear HB; have HO_26 := n0_; have HO_168000 := n1_; have BK163 := n2_; have BK167 := n3_; have HB := n4_; clear n0_ n1_ n2_ n3_ n4_; (try clear hb); (try clear hb2); (try clear hk); (try clear hi); have hcz48_0 : w47.cell? ⟨gb163, 0, none⟩ = some (.slice none 0 0) := (blk_cell BK163.out 0).trans rfl; have hcz48_1 : w47.cell? ⟨gb163, 1, none⟩ = some (.int .i64 0) := (blk_cell BK163.out 1).trans rfl; have hfz48_0 := blk_frozen BK163.out 0; have hfz48_1 := blk_frozen BK163.out 1))
   refine bodyPost_ret (results_ct rfl _ _ gb163 38 #[.slice none 0 0, .int .i64 0] (0, 0) _ rfl z4_4_ Tryd.underlying38 rfl (by kernel_rfl)) rfl ?_
   exact ⟨_, by first | rfl | (simp [errW_none, errW_some] <;> rfl) | (simp [*, errW_none, errW_some] <;> rfl), by first | exact Kd.R_nil _ _ _ _ _ | exact Kd.N_nil _ _ _ _ _ | exact Kd.V_nil _ _ _ _ _ | exact Kd.Q_nil _ _ _ _ _ | exact Kd.S_nil _ _ _ _ _, by repeat (first | (with_reducible first | exact HB.out | apply below_alloc | apply pw_below_drewN | apply below_drew1 | refine below_set ?_ GE163.out | refine below_set ?_ GE167.out) | exact HB.out)⟩

end Go.Proofs.YtiobgaeambfcbaaDoor.PFnExactParseCheck

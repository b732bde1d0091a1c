-- Laid by this session's program gprint.py over the kit's print.
import Derived.Test.YtgpakeadepcgnaaDoorPFnExactHarderPuzzlex0
import Derived.Test.YtgpakeadepcgnaaDoorPFnExactHarderPuzzlex1
import Derived.Test.YtgpakeadepcgnaaDoorPFnExactHarderPuzzlex2
import Derived.Test.YtgpakeadepcgnaaDoorPFnExactHarderPuzzlex4
import Derived.Test.YtgpakeadepcgnaaDoorPFnExactHarderPuzzlex7
namespace Go.Proofs.YtgpakeadepcgnaaDoor.PFnExactHarderPuzzle
open Go.RowKit Go.Proofs.YtgpakeadepcgnaaDoorW.PrintWords Go.Proofs.YtgpakeadepcgnaaDoorW.PrintLast Go.Proofs.YtgpakeadepcgnaaDoorW.PrintMore
attribute [local go_sem] max2_int min2_int max_two min_two max_three min_three max_four min_four   -- for this text's walks alone
set_option linter.unusedVariables false
set_option linter.unusedSimpArgs false
theorem z8_0_ {p : Prop} (h : p := by repeat (first | (with_reducible first | exact HB.out | apply below_alloc | apply pw_below_drewN | apply below_drew1 | refine below_set ?_ GE253.out | refine below_set ?_ GE262.out | refine below_set ?_ GE266.out | refine below_set ?_ GE271.out) | exact HB.out)) : p := h
theorem z8_1_ {p : Prop} (h : p := by (try simp only [List.map_toArray, List.map_cons, List.map_nil]); first | done | rfl | (simp only [List.length_drop, List.length_take]; rfl)) : p := h
theorem z8_2_ {p : Prop} (h : p := by (with_reducible repeat (first | refine blk_drewN ?_ _ | refine blk_drew ?_ | refine blk_alloc ?_ _)); exact BK253.out) : p := h
theorem z8_3_ {p : Prop} (h : p := by repeat (first | (with_reducible first | exact HB.out | apply below_alloc | apply pw_below_drewN | apply below_drew1) | exact HB.out)) : p := h
theorem z8_4_ {p : Prop} (h : p := by repeat (first | (with_reducible first | exact HB.out | apply below_alloc | apply pw_below_drewN | apply below_drew1 | refine below_set ?_ GE240.out | refine below_set ?_ GE241.out) | exact HB.out)) : p := h
theorem z8_5_ {p : Prop} (h : p := by (with_reducible repeat (first | refine blk_drewN ?_ _ | refine blk_drew ?_ | refine blk_alloc ?_ _)); exact BK262.out) : p := h
theorem z8_6_ {p : Prop} (h : p := by (with_reducible repeat (first | refine blk_drewN ?_ _ | refine blk_drew ?_ | refine blk_alloc ?_ _)); exact BK266.out) : p := h
theorem z8_7_ {p : Prop} (h : p := by (with_reducible repeat (first | apply Kd.R_alloc | apply Kd.R_drewN | apply Kd.R_drew)); exact HO257.out) : p := h
theorem z8_8_ {p : Prop} (h : p := by (with_reducible repeat (first | refine blk_drewN ?_ _ | refine blk_drew ?_ | refine blk_alloc ?_ _)); exact BK240.out) : p := h
theorem z8_9_ {p : Prop} (h : p := by (with_reducible repeat (first | apply Kd.R_alloc | apply Kd.R_drewN | apply Kd.R_drew)); exact HO260.out) : p := h
theorem z8_10_ {p : Prop} (h : p := by repeat (first | (with_reducible first | exact HB.out | apply below_alloc | apply pw_below_drewN | apply below_drew1 | refine below_set ?_ GE253.out) | exact HB.out)) : p := h
theorem z8_11_ {p : Prop} (h : p := by (with_reducible repeat (first | refine blk_drewN ?_ _ | refine blk_drew ?_ | refine blk_alloc ?_ _)); exact BK271.out) : p := h
theorem z8_12_ {p : Prop} (h : p := by (with_reducible repeat (first | apply Kd.R_alloc | apply Kd.R_drewN | apply Kd.R_drew)); exact HO265.out) : p := h
theorem z8_13_ {p : Prop} (h : p := by (with_reducible repeat (first | apply Kd.R_alloc | apply Kd.R_drewN | apply Kd.R_drew)); exact HO269.out) : p := h
theorem z8_14_ {p : Prop} (h : p := by repeat (first | (with_reducible first | exact HB.out | apply below_alloc | apply pw_below_drewN | apply below_drew1 | refine below_set ?_ GE253.out | refine below_set ?_ GE262.out) | exact HB.out)) : p := h
theorem z8_15_ {p : Prop} (h : p := by repeat (first | (with_reducible first | exact HB.out | apply below_alloc | apply pw_below_drewN | apply below_drew1 | refine below_set ?_ GE253.out | refine below_set ?_ GE262.out | refine below_set ?_ GE266.out) | exact HB.out)) : p := h
theorem z8_16_ {p : Prop} (h : p := by repeat (first | (with_reducible first | exact HB.out | apply below_alloc | apply pw_below_drewN | apply below_drew1 | refine below_set ?_ GE240.out) | exact HB.out)) : p := h
theorem z8_17_ {p : Prop} (h : p := by (with_reducible repeat (first | apply Kd.R_alloc | apply Kd.R_drewN | apply Kd.R_drew)); exact HO276.out) : p := h
theorem z8_18_ {p : Prop} (h : p := by (with_reducible repeat (first | refine blk_drewN ?_ _ | refine blk_drew ?_ | refine blk_alloc ?_ _)); exact BK241.out) : p := h
theorem z8_19_ {p : Prop} (h : p := by (with_reducible repeat (first | apply Kd.R_alloc | apply Kd.R_drewN | apply Kd.R_drew)); exact HO_6.out) : p := h
theorem z8_20_ {p : Prop} (h : p := by repeat (first | (with_reducible first | exact HB.out | apply below_alloc | apply pw_below_drewN | apply below_drew1 | refine below_set ?_ GE253.out | refine below_set ?_ GE262.out | refine below_set ?_ GE266.out | refine below_set ?_ GE271.out | refine below_set ?_ GE292.out) | exact HB.out)) : p := h
theorem z8_21_ {p : Prop} (h : p := by (with_reducible repeat (first | refine blk_drewN ?_ _ | refine blk_drew ?_ | refine blk_alloc ?_ _)); refine blk_put (cs := #[.slice none 0 0]) ?_ 0 _ rfl; (with_reducible repeat (first | refine blk_drewN ?_ _ | refine blk_drew ?_ | refine blk_alloc ?_ _)); exact BK241.out) : p := h
theorem z8_22_ {p : Prop} (h : p := by (try simp only [List.map_toArray, List.map_cons, List.map_nil]); first | done | (rw [show t283.length = t267.length from (Kd.R_reads' HO269.out).1.symm] <;> rfl) | rfl | (simp only [List.length_drop, List.length_take]; rfl)) : p := h
theorem z8_23_ {p : Prop} (h : p := by (with_reducible repeat (first | apply Kd.R_alloc | apply Kd.R_drewN | apply Kd.R_drew)); exact HO287.out) : p := h

/-! ### impl_IsSolved: function 24 -/
def impl_IsSolved.f (k : Nat) (l0_0 : List (S26)) : Option (Bool × Bool) := (impl_CountSolutions.f k l0_0).bind fun bt238 => (some ((bt238.1 == 1), bt238.2))
theorem impl_IsSolved.mono : ∀ a0 k, LeO (impl_IsSolved.f k a0) (impl_IsSolved.f (k + 1) a0) := by
 intro a0 k
 unfold impl_IsSolved.f
 repeat' first
  | (with_reducible exact impl_CountSolutions.mono _ _)
  | (with_reducible exact LeO.refl _)
  | (with_reducible exact LeO.none _)
  | (with_reducible refine LeO.ite ?_ ?_)
  | (with_reducible refine LeO.bind ?_ (fun _ => ?_))
  | exact impl_CountSolutions.mono _ _
  | exact LeO.none _
  | refine LeO.ite ?_ ?_
  | refine LeO.bind ?_ (fun _ => ?_)
set_option maxHeartbeats 8000000 in
set_option maxRecDepth 100000 in
theorem impl_IsSolved.calls (k : Nat) (A0_0 : Option Addr) (c0_0 : Nat) (l0_0 : List (S26)) (r1 : Bool) (r2 : Bool) (w : World) (hr0_0 : Kd.C k26 w A0_0 l0_0.length l0_0) (hc0_0 : l0_0.length ≤ c0_0) (h : impl_IsSolved.f k l0_0 = some (r1, r2)) :
 Calls Tryd.prog 24 #[.agg #[.slice A0_0 l0_0.length c0_0]] w fun e w' => e = .returned (.tuple #[.bool r1, .bool r2]) ∧ Below w.heap.size w w' := by
 have hu37 := Tryd.underlying37
 have HR0_0 := Aside0.mk hr0_0
 have HC0_0 := Aside0.mk hc0_0
 clear hr0_0 hc0_0
 have HB := Aside0.mk (Below.refl w.heap.size w)
 have H : ((impl_CountSolutions.f k l0_0).bind fun bt238 => (some ((bt238.1 == 1), bt238.2))) = some (r1, r2) := h
 clear h
 replace H := Option.bind_eq_some_iff.mp H
 obtain ⟨⟨t238, t239⟩, A20, H⟩ := H
 dsimp only at H
 have A2 := Aside0.mk A20
 clear A20
 simp only [Option.some.injEq, Prod.mk.injEq] at H
 obtain ⟨rfl, rfl⟩ := H
 go_enter Tryd.func24, Tryd.ntmps24
 go_wp2_with (first | ((with_reducible refine gate_dst (N := 1) rfl ?_); refine box_event ?hg (N := 1) ?hd (cs := #[.slice A0_0 l0_0.length c0_0]) (t := 37) ?hr ?_; (case hd => rfl); (case hg => rfl); (case hr => first | (go_simp; done) | (go_simp; rfl)); intro gb237 hg w3 hbox hb; have n0_ := Aside0.mk (below_step z8_3_ hb); have n1_ := Aside0.mk (hbox); have n2_ := Aside0.mk ((by rw [hg]; exact (below_size z8_3_) : w.heap.size ≤ gb237)); have n3_ := Aside0.mk ((by rw [hg]; exact (below_size z8_3_) : w.heap.size ≤ gb237)); clear HB; have HB := n0_; have BK237 := n1_; have GW237 := n2_; have GE237 := n3_; clear n0_ n1_ n2_ n3_; clear hb hbox hg; have hcz4_0 : w3.cell? ⟨gb237, 0, none⟩ = some (.slice A0_0 l0_0.length c0_0) := (blk_cell BK237.out 0).trans rfl; have hfz4_0 := blk_frozen BK237.out 0) | ((with_reducible refine gate_callee (f := 21) rfl ?_); refine goesL_ (some 8) rfl rfl Tryd.func21 (by kernel_rfl) rfl #[.agg #[.slice A0_0 l0_0.length c0_0]] rfl z8_1_ ?_; (with_reducible refine (impl_CountSolutions.calls k _ _ l0_0 t238 t239 _ ?side1 ?side2 A2.out).mono ?_); (case side1 => repeat (first | exact (Kd.C_below HR0_0.out HB.out) | (with_reducible refine Kd.C_alloc ?_ _) | (with_reducible refine Kd.C_drewN ?_ _) | (with_reducible refine Kd.C_drew ?_))); (case side2 => exact HC0_0.out); rintro e w5 ⟨rfl, hb⟩; refine ⟨_, rfl, ?_⟩; have n0_ := Aside0.mk (blk_below (g := gb237) (o := .cells #[.slice A0_0 l0_0.length c0_0] 37 (0, 0)) (by (with_reducible repeat (first | refine blk_drewN ?_ _ | refine blk_drew ?_ | refine blk_alloc ?_ _)); exact BK237.out) hb); have n1_ := Aside0.mk (below_step (by repeat (first | (with_reducible first | exact HB.out | apply below_alloc | apply pw_below_drewN | apply below_drew1 | refine below_set ?_ GE237.out) | exact HB.out)) hb); clear BK237; clear HB; have BK237 := n0_; have HB := n1_; clear n0_ n1_; (try clear hb); (try clear hb2); (try clear hk); (try clear hi)))
 go_ret2
 exact ⟨by first | rfl | (simp [errW_none, errW_some] <;> rfl) | (simp [*, errW_none, errW_some] <;> rfl), by repeat (first | (with_reducible first | exact HB.out | apply below_alloc | apply pw_below_drewN | apply below_drew1 | refine below_set ?_ GE237.out) | exact HB.out)⟩

/-! ### slices_Clone_clue: function 76 -/
def slices_Clone_clue.f (l0 : List S26) : Option (List S26) := if l0.length < 5864062014805 then some l0 else none
set_option maxHeartbeats 8000000 in
set_option maxRecDepth 100000 in
theorem slices_Clone_clue.calls (A0 : Option Addr) (c0 : Nat) (l0 : List (S26)) (r : List (S26)) (w : World) (hr0 : Kd.C k26 w A0 l0.length l0) (hc0 : l0.length ≤ c0) (h : slices_Clone_clue.f l0 = some r) :
 Calls Tryd.prog 76 #[.slice A0 l0.length c0] w fun e w' => ∃ v0_ : Value, e = .returned (v0_) ∧ Kd.R k26 26 w' w.heap.size (fun _ => True) v0_ r ∧ Below w.heap.size w w' := by
 have HR0 := Aside0.mk hr0
 have HC0 := Aside0.mk hc0
 have HB := Aside0.mk (Below.refl w.heap.size w)
 have heq := fun W => Lib.run_eql_slice_nil (P := Tryd.prog) W 35 26 A0 l0.length c0 0 0 Tryd.underlying35
 unfold slices_Clone_clue.f at h
 by_cases hlim : l0.length < 5864062014805
 rotate_left
 · exact none_ (if_neg hlim) h
 rw [if_pos hlim] at h
 obtain rfl := Option.some.inj h
 have LM := Aside0.mk hlim
 clear h hlim
 cases A0 with
 | none =>
  have hl : l0 = [] := by
   have h3 := hr0.2.2
   have : ¬ 0 < l0.length := fun hp => by obtain ⟨ad, e, _⟩ := h3 hp; cases e
   exact List.eq_nil_of_length_eq_zero (by omega)
  have HL := Aside0.mk hl
  clear hl hr0 hc0
  simp only [Option.isNone_none] at heq
  go_enter Tryd.func76, Tryd.ntmps76
  go_wp2
  go_ret
  exact ⟨_, rfl, by rw [HL.out]; exact Kd.R_nil _ _ _ _ _, HB.out⟩
 | some a0 =>
  clear hr0 hc0
  simp only [Option.isNone_some] at heq
  obtain ⟨y101, hy101⟩ : ∃ y_ : List (S26), y_ = (([] : List (S26))) := ⟨_, rfl⟩
  have Ny101 := Aside0.mk hy101
  have LMc2 := Aside0.mk (show y101.length + l0.length < 5864062014805 by rw [hy101]; simpa using LM.out)
  obtain ⟨y104, hy104⟩ : ∃ y_ : List (S26), y_ = (y101 ++ l0) := ⟨_, rfl⟩
  have Ny104 := Aside0.mk hy104
  have NL := Aside0.mk (show y104 = l0 by rw [hy104, hy101]; rfl)
  clear hy101 hy104
  go_enter Tryd.func76, Tryd.ntmps76
  go_wp2_with (first | ((with_reducible refine gate_dst (N := 5) rfl ?_); refine Kd.R_lit k26 _ 26 ?hg (N := 5) ?hd (xs := ([] : List (S26))) (inner := []) (ok := fun _ => True) (okp := fun _ => True) ?hr ?hp (fun _ hk => hk) trivial (Below.refl _ _) (Nat.le_refl _) (by simp) ?_; (case hd => rfl); (case hg => rfl); (case hr => first | (go_simp; done) | (go_simp; rfl)); (case hp => exact (Reps.none _ _)); intro v102 w3 ho4 hb hg_ hnew_; clear hg_ hnew_; (first | rw [← Ny101.out] at ho4 | (simp only [Int.reduceToNat] at ho4; rw [← Ny101.out] at ho4)); have n0_ := Aside0.mk (Kd.R_lower ho4 (below_size z8_3_)); have n1_ := Aside0.mk (below_step z8_3_ hb); clear HB; have HO103 := n0_; have HB := n1_; clear n0_ n1_; clear hb ho4) | ((with_reducible refine gate_builtin (b := .append) (xs := #[.tmp 5, .tmp 6]) rfl ?_); at_builtin; refine Kd.R_append_rows k26 (w0 := w) w.heap.size rfl (.tmp 5) (.tmp 6) 35 26 (.agg #[(.int .i64 0), (.int .i64 0), (.int .i64 0)]) 24 rfl Tryd.underlying35 info26 rfl (by decide) (by omega) v102 y101 l0 _ _ _ (fun _ => True) (fun _ => False) rfl rfl ?aO ?aR (fun _ _ h => h) (fun _ h => h.elim) ?aF ?aB ?aS ?aL ?_; (case aR => repeat (first | exact (Kd.C_below HR0.out HB.out) | (with_reducible refine Kd.C_alloc ?_ _) | (with_reducible refine Kd.C_drewN ?_ _) | (with_reducible refine Kd.C_drew ?_))); (case aB => exact z8_3_); (case aF => exact (fun _ _ => trivial)); (case aO => exact (by (with_reducible repeat (first | apply Kd.R_alloc | apply Kd.R_drewN | apply Kd.R_drew)); exact HO103.out)); (case aS => exact (below_size z8_3_)); (case aL => have := LMc2.out; omega); intro v105 w5 ho hb hg hat; rw [← Ny104.out] at ho; have n0_ := Aside0.mk (hb); have n1_ := Aside0.mk (ho); clear HB; clear HO103; have HB := n0_; have HO106 := n1_; clear n0_ n1_; clear ho hb hg hat))
  go_ret
  exact ⟨_, rfl, by (with_reducible repeat (first | apply Kd.R_alloc | apply Kd.R_drewN | apply Kd.R_drew)); rw [← NL.out]; exact HO106.out, by repeat (first | (with_reducible first | exact HB.out | apply below_alloc | apply pw_below_drewN | apply below_drew1) | exact HB.out)⟩

-- NOT PRINTED: function 96 (impl_Clue_96)

/-! ### impl_dropped: function 75 -/
set_option maxHeartbeats 8000000 in
set_option maxRecDepth 100000 in
theorem slices_Delete_clue (l : List S26) (k : Nat) (hk : k < l.length) (v : Value) (w0 w : World) (hB : Below w0.heap.size w0 w) (ho : Kd.R k26 26 w w0.heap.size (fun _ => True) v l) :
 Calls Tryd.prog 96 #[v, .int .i64 (k : Int), .int .i64 ((k : Int) + 1)] w fun e w' => ∃ v' : Value, e = .returned v' ∧ Kd.R k26 26 w' w0.heap.size (fun _ => True) v' (l.eraseIdx k) ∧ Below w0.heap.size w0 w' := by
 obtain ⟨g, c, rfl, hbase, hgw, _⟩ := Kd.R_form ho (by omega)
 obtain ⟨_, hnc, _⟩ := Kd.R_reads' ho
 have hcm : c ≤ 9223372036854775807 := by
  obtain ⟨_, inner, hown, _⟩ := ho
  rcases hown.2 with ⟨hv, _⟩ | ⟨g', cap', cur, hv, _, _, _, hcm, _⟩
  · cases hv
  injection hv with _ _ hc
  subst hc
  exact hcm
 obtain ⟨n, hn⟩ : ∃ n, n = l.length := ⟨_, rfl⟩
 rw [← hn] at ho hk hnc ⊢
 have HO := Aside0.mk ho
 have HB := Aside0.mk hB
 have HN := Aside0.mk hn
 have HBS := Aside0.mk hbase
 obtain ⟨i0, hi0, _, hsz0, _⟩ := info_parts info26
 obtain ⟨v1, hs1⟩ := Fn.cut3 (P := Tryd.prog) 35 26 .i64 .i64 .i64 Tryd.underlying35 hi0 (some ⟨g, 0, none⟩) n c (k : Int) ((k : Int) + 1) (n : Int) (by omega) (by omega) (by omega) (by omega)
 have hs2 := cut_to (P := Tryd.prog) 35 26 .i64 Tryd.underlying35 hi0 (some ⟨g, 0, none⟩) n c (k : Int) (by omega) (by omega) hnc
 have hs3 := cut_from (P := Tryd.prog) 35 26 .i64 Tryd.underlying35 hi0 3 hsz0 (some ⟨g, 0, none⟩) n c ((k : Int) + 1) (by omega) (by omega)
 have hs4 := Fn.cut_cap (P := Tryd.prog) 35 26 .i64 .i64 Tryd.underlying35 hi0 3 hsz0 g (n - 1) c ((n - 1 : Nat) : Int) (n : Int) (by omega) (by omega) (by omega) (by omega)
 have ek : ((k : Int) + 1).toNat = k + 1 := by omega
 have en : ((n : Int)).toNat - ((n - 1 : Nat) : Int).toNat = 1 := by omega
 rw [ek] at hs3
 rw [en] at hs4
 simp only [Int.toNat_natCast] at hs2 hs4
 obtain ⟨A3, hA3⟩ : ∃ A3, A3 = (if c = k + 1 then (some (⟨g, 0, none⟩ : Addr)) else (some (⟨g, 0, none⟩ : Addr)).map (·.add ((k + 1) * 3))) := ⟨_, rfl⟩
 rw [← hA3] at hs3
 have HA3 := Aside0.mk hA3
 have HI := Aside0.mk (show (Tryd.prog.info? 26).map (·.size) = some (k26).sz by rw [hi0]; simp [hsz0]; rfl)
 have HK := Aside0.mk hk
 have HC := Aside0.mk (show n - 1 < c by omega)
 have hne : ((k : Int) == (k : Int) + 1) = false := by simp; omega
 have hbl : (n : Int) ≤ 9223372036854775807 := by omega
 clear ho hB hn hbase hgw hA3 ek en hi0 hsz0
 go_enter Tryd.func96, Tryd.ntmps96
 go_wp2
 go_still_tail 6, (by kernel_rfl)
 have HB2 := Aside0.mk (below_drew1 HB.out)
 have HO2 := Aside0.mk (Kd.R_drew HO.out)
 go_wp2_with (first | ((with_reducible refine gate_builtin (b := .append) (xs := #[.tmp 22, .tmp 25]) rfl ?_); at_builtin; refine Kd.R_delete k26 (w0 := w0) w0.heap.size rfl (.tmp 22) (.tmp 25) 35 26 rfl Tryd.underlying35 HI.out (g := g) (n := n) (c := c) (k := k) rfl rfl HA3.out rfl HO2.out HK.out HB2.out HB2.out.size ?_; intro w1 ho1 hb1 _; have HO3 := Aside0.mk ho1; have HB3 := Aside0.mk hb1; clear ho1 hb1) | ((with_reducible refine gate_builtin (b := .clear) (xs := #[.tmp 31]) rfl ?_); refine Fn.clear_step k26 (w0 := w0) w0.heap.size rfl (.tmp 31) 35 26 (.agg #[.int .i64 0, .int .i64 0, .int .i64 0]) [.int .i64 0, .int .i64 0, .int .i64 0] rfl Tryd.underlying35 (fun _ => by kernel_rfl) (by kernel_rfl) (by simp [Value.oneCell']) rfl (g := g) (m := n - 1) (c := c) rfl rfl HC.out HO3.out HB3.out HB3.out.size ?_; intro w1 ho1 hb1; have HO4 := Aside0.mk ho1; have HB4 := Aside0.mk hb1; clear ho1 hb1))
 go_ret
 exact ⟨_, rfl, HO4.out, HB4.out⟩
def impl_dropped.f (l0 : List S26) (a1 : Int) : Option (List S26) := if 0 ≤ a1 then (if a1 < (l0.length : Int) then (if l0.length < 5864062014805 then some (l0.eraseIdx a1.toNat) else none) else none) else none
set_option maxHeartbeats 8000000 in
set_option maxRecDepth 100000 in
theorem impl_dropped.calls (A0 : Option Addr) (c0 : Nat) (l0 : List (S26)) (a1 : Int) (r : List (S26)) (w : World) (hr0 : Kd.C k26 w A0 l0.length l0) (hc0 : l0.length ≤ c0) (h : impl_dropped.f l0 a1 = some r) :
 Calls Tryd.prog 75 #[.slice A0 l0.length c0, .int .i64 a1] w fun e w' => ∃ v0_ : Value, e = .returned (v0_) ∧ Kd.R k26 26 w' w.heap.size (fun _ => True) v0_ r ∧ Below w.heap.size w w' := by
 unfold impl_dropped.f at h
 by_cases h0 : 0 ≤ a1
 rotate_left
 · exact none_ (if_neg h0) h
 rw [if_pos h0] at h
 by_cases h1 : a1 < (l0.length : Int)
 rotate_left
 · exact none_ (if_neg h1) h
 rw [if_pos h1] at h
 by_cases h2 : l0.length < 5864062014805
 rotate_left
 · exact none_ (if_neg h2) h
 rw [if_pos h2] at h
 obtain rfl := Option.some.inj h
 obtain ⟨k, rfl⟩ : ∃ k : Nat, a1 = (k : Int) := ⟨a1.toNat, by omega⟩
 have HR0 := Aside0.mk hr0
 have HC0 := Aside0.mk hc0
 have HCL := Aside0.mk (show slices_Clone_clue.f l0 = some l0 by unfold slices_Clone_clue.f; rw [if_pos h2])
 have HK := Aside0.mk (show k < l0.length by omega)
 have hb0 : (k : Int) ≤ 5864062014805 := by omega
 clear hr0 hc0 h h0 h1 h2
 go_enter Tryd.func75, Tryd.ntmps75
 go_wp2_with (first | (go_at_call 76; (with_reducible refine (slices_Clone_clue.calls A0 c0 l0 l0 w HR0.out HC0.out HCL.out).mono ?_); rintro e w1 ⟨v1, rfl, ho, hb⟩; have HO := Aside0.mk ho; have HB := Aside0.mk hb; clear ho hb) | (go_at_call 96; (with_reducible refine (slices_Delete_clue l0 k HK.out v1 w _ HB.out HO.out).mono ?_); rintro e w2 ⟨v2, rfl, ho, hb⟩; have HO2 := Aside0.mk ho; have HB2 := Aside0.mk hb; clear ho hb))
 go_ret
 exact ⟨_, rfl, HO2.out, HB2.out⟩

/-! ### impl_HarderPuzzle: function 48 -/
def impl_HarderPuzzle.l0 : Nat → List (S26) → Int → Option ((List (S26)) × Bool)
 | 0, _, _ => none
 | k + 1, x6, x7 => if x7 < (x6.length : Int) then ((impl_dropped.f x6 x7).bind fun t247 => ((impl_solutions.f k t247).bind fun t250 => (if (t250.length : Int) = 1 then (impl_HarderPuzzle.l0 k t247 x7) else (impl_HarderPuzzle.l0 k x6 (wrap64 (x7 + 1)))))) else (some (x6, true))
def impl_HarderPuzzle.f (k : Nat) (l0_0 : List (S26)) : Option ((List (S26)) × Bool) := (impl_IsSolved.f k l0_0).bind fun bt242 => (if bt242.1 = true then ((slices_Clone_clue.f l0_0).bind fun t244 => (impl_HarderPuzzle.l0 k t244 0)) else (some (([] : List (S26)), false)))
theorem impl_HarderPuzzle.mono_l : ∀ k, (∀ y0 y1, LeO (impl_HarderPuzzle.l0 k y0 y1) (impl_HarderPuzzle.l0 (k + 1) y0 y1))
 | 0 => fun _ _ r h => by simp [impl_HarderPuzzle.l0] at h
 | k + 1 => by
  have ih0 := impl_HarderPuzzle.mono_l k
  intro y0 y1
  unfold impl_HarderPuzzle.l0
  repeat' first
  | (with_reducible exact ih0 _ _)
  | (with_reducible exact impl_IsSolved.mono _ _)
  | (with_reducible exact impl_solutions.mono _ _)
  | (with_reducible exact LeO.refl _)
  | (with_reducible exact LeO.none _)
  | (with_reducible refine LeO.ite ?_ ?_)
  | (with_reducible refine LeO.bind ?_ (fun _ => ?_))
  | exact ih0 _ _
  | exact impl_IsSolved.mono _ _
  | exact impl_solutions.mono _ _
  | exact LeO.none _
  | refine LeO.ite ?_ ?_
  | refine LeO.bind ?_ (fun _ => ?_)
theorem impl_HarderPuzzle.mono : ∀ a0 k, LeO (impl_HarderPuzzle.f k a0) (impl_HarderPuzzle.f (k + 1) a0) := by
 intro a0 k
 have ih0 := impl_HarderPuzzle.mono_l k
 unfold impl_HarderPuzzle.f
 repeat' first
  | (with_reducible exact ih0 _ _)
  | (with_reducible exact impl_IsSolved.mono _ _)
  | (with_reducible exact impl_solutions.mono _ _)
  | (with_reducible exact LeO.refl _)
  | (with_reducible exact LeO.none _)
  | (with_reducible refine LeO.ite ?_ ?_)
  | (with_reducible refine LeO.bind ?_ (fun _ => ?_))
  | exact ih0 _ _
  | exact impl_IsSolved.mono _ _
  | exact impl_solutions.mono _ _
  | exact LeO.none _
  | refine LeO.ite ?_ ?_
  | refine LeO.bind ?_ (fun _ => ?_)
set_option maxHeartbeats 8000000 in
set_option maxRecDepth 100000 in
theorem impl_HarderPuzzle.calls (k : Nat) (A0_0 : Option Addr) (c0_0 : Nat) (l0_0 : List (S26)) (r1 : List (S26)) (r2 : Bool) (w : World) (hr0_0 : Kd.C k26 w A0_0 l0_0.length l0_0) (hc0_0 : l0_0.length ≤ c0_0) (h : impl_HarderPuzzle.f k l0_0 = some (r1, r2)) :
 Calls Tryd.prog 48 #[.agg #[.slice A0_0 l0_0.length c0_0]] w fun e w' => ∃ v0_ : Value, e = .returned (.tuple #[.agg #[v0_], .bool r2]) ∧ Kd.R k26 26 w' w.heap.size (fun _ => True) v0_ r1 ∧ Below w.heap.size w w' := by
 have hu37 := Tryd.underlying37
 have HR0_0 := Aside0.mk hr0_0
 have HC0_0 := Aside0.mk hc0_0
 clear hr0_0 hc0_0
 have HB := Aside0.mk (Below.refl w.heap.size w)
 have H : ((impl_IsSolved.f k l0_0).bind fun bt242 => (if bt242.1 = true then ((slices_Clone_clue.f l0_0).bind fun t244 => (impl_HarderPuzzle.l0 k t244 0)) else (some (([] : List (S26)), false)))) = some (r1, r2) := h
 clear h
 replace H := Option.bind_eq_some_iff.mp H
 obtain ⟨⟨t242, t243⟩, A20, H⟩ := H
 dsimp only at H
 have A2 := Aside0.mk A20
 clear A20
 by_cases c3 : t242 = true
 · subst c3
   have H1 : ((slices_Clone_clue.f l0_0).bind fun t244 => (impl_HarderPuzzle.l0 k t244 0)) = some (r1, r2) := by rw [if_pos rfl] at H; exact H
   clear H
   have H := H1
   clear H1
   replace H := Option.bind_eq_some_iff.mp H
   obtain ⟨t244, A40, H⟩ := H
   have A4 := Aside0.mk A40
   clear A40
   have H' := Aside0.mk H
   clear H
   go_enter Tryd.func48, Tryd.ntmps48
   go_wp2_with (first | ((with_reducible refine gate_dst (N := 1) rfl ?_); refine box_event ?hg (N := 1) ?hd (cs := #[.slice A0_0 l0_0.length c0_0]) (t := 37) ?hr ?_; (case hd => rfl); (case hg => rfl); (case hr => first | (go_simp; done) | (go_simp; rfl)); intro gb240 hg w5 hbox hb; have n0_ := Aside0.mk (below_step z8_3_ hb); have n1_ := Aside0.mk (hbox); have n2_ := Aside0.mk ((by rw [hg]; exact (below_size z8_3_) : w.heap.size ≤ gb240)); have n3_ := Aside0.mk ((by rw [hg]; exact (below_size z8_3_) : w.heap.size ≤ gb240)); clear HB; have HB := n0_; have BK240 := n1_; have GW240 := n2_; have GE240 := n3_; clear n0_ n1_ n2_ n3_; clear hb hbox hg) | ((with_reducible refine gate_dst (N := 2) rfl ?_); refine box_event ?hg (N := 2) ?hd (cs := #[.slice none 0 0]) (t := 37) ?hr ?_; (case hd => rfl); (case hg => rfl); (case hr => first | (go_simp; done) | (go_simp; rfl)); intro gb241 hg w6 hbox hb; have n0_ := Aside0.mk (blk_below (g := gb240) (o := .cells #[.slice A0_0 l0_0.length c0_0] 37 (0, 0)) z8_8_ hb); have n1_ := Aside0.mk (below_step z8_16_ hb); have n2_ := Aside0.mk (hbox); have n3_ := Aside0.mk ((by rw [hg]; exact (below_size z8_16_) : w.heap.size ≤ gb241)); have n4_ := Aside0.mk ((by rw [hg]; exact (below_size z8_16_) : w.heap.size ≤ gb241)); have n5_ := Aside0.mk ((by rw [hg]; exact Nat.ne_of_lt (blk_lt (g := gb240) (o := .cells #[.slice A0_0 l0_0.length c0_0] 37 (0, 0)) z8_8_) : gb240 ≠ gb241)); have n6_ := Aside0.mk ((by rw [hg]; exact Nat.ne_of_gt (blk_lt (g := gb240) (o := .cells #[.slice A0_0 l0_0.length c0_0] 37 (0, 0)) z8_8_) : gb241 ≠ gb240)); clear BK240; clear HB; have BK240 := n0_; have HB := n1_; have BK241 := n2_; have GW241 := n3_; have GE241 := n4_; have NB240_241 := n5_; have NB241_240 := n6_; clear n0_ n1_ n2_ n3_ n4_ n5_ n6_; clear hb hbox hg; have hnb7 := NB240_241.out; have hnc7 := NB241_240.out; have hcz8_0 : w6.cell? ⟨gb240, 0, none⟩ = some (.slice A0_0 l0_0.length c0_0) := (blk_cell BK240.out 0).trans rfl; have hfz8_0 := blk_frozen BK240.out 0) | ((with_reducible refine gate_callee (f := 24) rfl ?_); refine goesL_ (some 11) rfl rfl Tryd.func24 (by kernel_rfl) rfl #[.agg #[.slice A0_0 l0_0.length c0_0]] rfl z8_1_ ?_; (with_reducible refine (impl_IsSolved.calls k _ _ l0_0 true t243 _ ?side1 ?side2 A2.out).mono ?_); (case side1 => repeat (first | exact (Kd.C_below HR0_0.out HB.out) | (with_reducible refine Kd.C_alloc ?_ _) | (with_reducible refine Kd.C_drewN ?_ _) | (with_reducible refine Kd.C_drew ?_))); (case side2 => exact HC0_0.out); rintro e w9 ⟨rfl, hb⟩; refine ⟨_, rfl, ?_⟩; have n0_ := Aside0.mk (blk_below (g := gb240) (o := .cells #[.slice A0_0 l0_0.length c0_0] 37 (0, 0)) z8_8_ hb); have n1_ := Aside0.mk (blk_below (g := gb241) (o := .cells #[.slice none 0 0] 37 (0, 0)) z8_18_ hb); have n2_ := Aside0.mk (below_step z8_4_ hb); clear BK240; clear BK241; clear HB; have BK240 := n0_; have BK241 := n1_; have HB := n2_; clear n0_ n1_ n2_; (try clear hb); (try clear hb2); (try clear hk); (try clear hi); have hcz10_0 : w9.cell? ⟨gb240, 0, none⟩ = some (.slice A0_0 l0_0.length c0_0) := (blk_cell BK240.out 0).trans rfl; have hfz10_0 := blk_frozen BK240.out 0) | ((with_reducible refine gate_callee (f := 76) rfl ?_); refine goesL_ (some 19) rfl rfl Tryd.func76 (by kernel_rfl) rfl #[.slice A0_0 l0_0.length c0_0] rfl z8_1_ ?_; (with_reducible refine (slices_Clone_clue.calls _ _ l0_0 t244 _ ?side1 ?side2 A4.out).mono ?_); (case side1 => repeat (first | exact (Kd.C_below HR0_0.out HB.out) | (with_reducible refine Kd.C_alloc ?_ _) | (with_reducible refine Kd.C_drewN ?_ _) | (with_reducible refine Kd.C_drew ?_))); (case side2 => exact HC0_0.out); rintro e w11 ⟨v245, rfl, ho0, hb⟩; refine ⟨_, rfl, ?_⟩; have n0_ := Aside0.mk (Kd.R_lower ho0 (below_size z8_4_)); have n1_ := Aside0.mk (blk_below (g := gb240) (o := .cells #[.slice A0_0 l0_0.length c0_0] 37 (0, 0)) z8_8_ hb); have n2_ := Aside0.mk (blk_below (g := gb241) (o := .cells #[.slice none 0 0] 37 (0, 0)) z8_18_ hb); have n3_ := Aside0.mk (below_step z8_4_ hb); clear BK240; clear BK241; clear HB; have HO246 := n0_; have BK240 := n1_; have BK241 := n2_; have HB := n3_; clear n0_ n1_ n2_ n3_; (try clear hb); (try clear hb2); (try clear hk); (try clear hi); (try clear ho0)))
   go_loopg [6, 7] k (fun kq v6 v7 w' => ∃ (x6_1 : List (S26)) (x7_1 : Int), v7 = .int .i64 x7_1 ∧ Aside0 (impl_HarderPuzzle.l0 kq x6_1 x7_1 = some (r1, r2)) ∧ Aside0 (kq ≤ k) ∧ Aside0 (Kd.R k26 26 w' w.heap.size (fun _ => True) v6 x6_1) ∧ Aside0 (w'.heap[gb240]? = some (.cells #[(.slice A0_0 l0_0.length c0_0)] 37 (0, 0))) ∧ Aside0 (w'.heap[gb241]? = some (.cells #[(.slice none 0 0)] 37 (0, 0))) ∧ Aside0 (Below w.heap.size w w'))
   case atStart => exact ⟨(t244), (0), (by first | rfl | (simp; done) | (simp [*]; done)), H', ⟨Nat.le_refl _⟩, ⟨by (with_reducible repeat (first | apply Kd.R_alloc | apply Kd.R_drewN | apply Kd.R_drew)); exact HO246.out⟩, ⟨by (with_reducible repeat (first | refine blk_drewN ?_ _ | refine blk_drew ?_ | refine blk_alloc ?_ _)); exact BK240.out⟩, ⟨by (with_reducible repeat (first | refine blk_drewN ?_ _ | refine blk_drew ?_ | refine blk_alloc ?_ _)); exact BK241.out⟩, ⟨by repeat (first | (with_reducible first | exact HB.out | apply below_alloc | apply pw_below_drewN | apply below_drew1 | refine below_set ?_ GE240.out | refine below_set ?_ GE241.out) | exact HB.out)⟩⟩
   case round =>
    clear H'
    (try clear c2);(try clear p2);(try clear c3);(try clear c4);(try clear c7);(try clear hcz10_0);(try clear hcz8_0);(try clear hfz10_0);(try clear hfz8_0)
    obtain ⟨x6_1, x7_1, rfl, HA, HK1, HO_6, BK240, BK241, HB⟩ := hrel
    cases gk with
    | zero => exact absurd HA.out (by simp [impl_HarderPuzzle.l0])
    | succ k1 =>
     have H := HA.out
     clear HA
     simp only [impl_HarderPuzzle.l0] at H
     by_cases c12 : x7_1 < (x6_1.length : Int)
     · rw [if_pos c12] at H
       have c12b0 : decide (x7_1 < (x6_1.length : Int)) = true := decide_eq_true c12
       clear c12
       replace H := Option.bind_eq_some_iff.mp H
       obtain ⟨t247, A130, H⟩ := H
       have A13 := Aside0.mk A130
       clear A130
       replace H := Option.bind_eq_some_iff.mp H
       obtain ⟨t250, A140, H⟩ := H
       have A14 := Aside0.mk A140
       clear A140
       by_cases c15 : (t250.length : Int) = 1
       · rw [if_pos c15] at H
         have c15b0 : ((t250.length : Int) == 1) = true := beq_iff_eq.mpr c15
         have c15b1 : ((t250.length : Int) != 1) = false := bne_eq_false_iff_eq.mpr c15
         clear c15
         have H' := Aside0.mk H
         clear H
         obtain ⟨Ao16, co16, eo16⟩ := Kd.R_slice HO_6.out
         subst eo16
         go_wp2_with (first | ((with_reducible refine gate_callee (f := 75) rfl ?_); refine goesL_ (some 26) rfl rfl Tryd.func75 (by kernel_rfl) rfl #[.slice Ao16 x6_1.length co16, .int .i64 x7_1] rfl z8_1_ ?_; (with_reducible refine (impl_dropped.calls _ _ x6_1 x7_1 t247 _ ?side1 ?side2 A13.out).mono ?_); (case side1 => repeat (first | exact (Kd.R_reads' HO_6.out).2.2 | (with_reducible refine Kd.C_alloc ?_ _) | (with_reducible refine Kd.C_drewN ?_ _) | (with_reducible refine Kd.C_drew ?_))); (case side2 => exact (Kd.R_reads' HO_6.out).2.1); rintro e w17 ⟨v248, rfl, ho0, hb⟩; refine ⟨_, rfl, ?_⟩; have n0_ := Aside0.mk (Kd.R_elder' z8_19_ (Kd.R_base ho0) hb); have n1_ := Aside0.mk (Kd.R_lower (Kd.R_new' ho0 (Kd.R_lt z8_19_)) (below_size z8_4_)); have n2_ := Aside0.mk (blk_below (g := gb240) (o := .cells #[.slice A0_0 l0_0.length c0_0] 37 (0, 0)) z8_8_ hb); have n3_ := Aside0.mk (blk_below (g := gb241) (o := .cells #[.slice none 0 0] 37 (0, 0)) z8_18_ hb); have n4_ := Aside0.mk (below_step z8_4_ hb); clear HO_6; clear BK240; clear BK241; clear HB; have HO_6 := n0_; have HO249 := n1_; have BK240 := n2_; have BK241 := n3_; have HB := n4_; clear n0_ n1_ n2_ n3_ n4_; (try clear hb); (try clear hb2); (try clear hk); (try clear hi); (try clear ho0); obtain ⟨Ao18, co18, eo18⟩ := Kd.R_slice HO249.out; subst eo18) | ((with_reducible refine gate_callee (f := 72) rfl ?_); refine goesL_ (some 28) rfl rfl Tryd.func72 (by kernel_rfl) rfl #[.slice Ao18 t247.length co18] rfl z8_1_ ?_; (with_reducible refine (impl_solutions.calls k1 _ _ t247 t250 _ ?side1 ?side2 A14.out).mono ?_); (case side1 => repeat (first | exact (Kd.R_reads' HO249.out).2.2 | (with_reducible refine Kd.C_alloc ?_ _) | (with_reducible refine Kd.C_drewN ?_ _) | (with_reducible refine Kd.C_drew ?_))); (case side2 => exact (Kd.R_reads' HO249.out).2.1); rintro e w19 ⟨v251, rfl, ho0, hb⟩; refine ⟨_, rfl, ?_⟩; have n0_ := Aside0.mk (Kd.R_below z8_19_ hb); have n1_ := Aside0.mk (Kd.R_below (by (with_reducible repeat (first | apply Kd.R_alloc | apply Kd.R_drewN | apply Kd.R_drew)); exact HO249.out) hb); have n2_ := Aside0.mk (Kd.R_lower ho0 (below_size z8_4_)); have n3_ := Aside0.mk (blk_below (g := gb240) (o := .cells #[.slice A0_0 l0_0.length c0_0] 37 (0, 0)) z8_8_ hb); have n4_ := Aside0.mk (blk_below (g := gb241) (o := .cells #[.slice none 0 0] 37 (0, 0)) z8_18_ hb); have n5_ := Aside0.mk (below_step z8_4_ hb); clear HO_6; clear HO249; clear BK240; clear BK241; clear HB; have HO_6 := n0_; have HO249 := n1_; have HO252 := n2_; have BK240 := n3_; have BK241 := n4_; have HB := n5_; clear n0_ n1_ n2_ n3_ n4_ n5_; (try clear hb); (try clear hb2); (try clear hk); (try clear hi); (try clear ho0); obtain ⟨Ao20, co20, eo20⟩ := Kd.R_slice HO252.out; subst eo20))
         go_roundg k1
         case measure => have := HK1.out; omega
         case rel => exact ⟨(t247), (x7_1), (by first | rfl | (simp; done) | (simp [*]; done)), H', ⟨by have := HK1.out; omega⟩, ⟨by (with_reducible repeat (first | apply Kd.R_alloc | apply Kd.R_drewN | apply Kd.R_drew)); exact Kd.R_mono HO249.out (fun _ hk => trivial)⟩, ⟨by (with_reducible repeat (first | refine blk_drewN ?_ _ | refine blk_drew ?_ | refine blk_alloc ?_ _)); exact BK240.out⟩, ⟨by (with_reducible repeat (first | refine blk_drewN ?_ _ | refine blk_drew ?_ | refine blk_alloc ?_ _)); exact BK241.out⟩, ⟨by repeat (first | (with_reducible first | exact HB.out | apply below_alloc | apply pw_below_drewN | apply below_drew1 | refine below_set ?_ GE240.out | refine below_set ?_ GE241.out) | exact HB.out)⟩⟩
       rw [if_neg c15] at H
       have c15b0 : ((t250.length : Int) == 1) = false := beq_eq_false_iff_ne.mpr c15
       have c15b1 : ((t250.length : Int) != 1) = true := bne_iff_ne.mpr c15
       have H' := Aside0.mk H
       clear H
       obtain ⟨Ao21, co21, eo21⟩ := Kd.R_slice HO_6.out
       subst eo21
       go_wp2_with (first | ((with_reducible refine gate_callee (f := 75) rfl ?_); refine goesL_ (some 26) rfl rfl Tryd.func75 (by kernel_rfl) rfl #[.slice Ao21 x6_1.length co21, .int .i64 x7_1] rfl z8_1_ ?_; (with_reducible refine (impl_dropped.calls _ _ x6_1 x7_1 t247 _ ?side1 ?side2 A13.out).mono ?_); (case side1 => repeat (first | exact (Kd.R_reads' HO_6.out).2.2 | (with_reducible refine Kd.C_alloc ?_ _) | (with_reducible refine Kd.C_drewN ?_ _) | (with_reducible refine Kd.C_drew ?_))); (case side2 => exact (Kd.R_reads' HO_6.out).2.1); rintro e w22 ⟨v248, rfl, ho0, hb⟩; refine ⟨_, rfl, ?_⟩; have n0_ := Aside0.mk (Kd.R_elder' z8_19_ (Kd.R_base ho0) hb); have n1_ := Aside0.mk (Kd.R_lower (Kd.R_new' ho0 (Kd.R_lt z8_19_)) (below_size z8_4_)); have n2_ := Aside0.mk (blk_below (g := gb240) (o := .cells #[.slice A0_0 l0_0.length c0_0] 37 (0, 0)) z8_8_ hb); have n3_ := Aside0.mk (blk_below (g := gb241) (o := .cells #[.slice none 0 0] 37 (0, 0)) z8_18_ hb); have n4_ := Aside0.mk (below_step z8_4_ hb); clear HO_6; clear BK240; clear BK241; clear HB; have HO_6 := n0_; have HO249 := n1_; have BK240 := n2_; have BK241 := n3_; have HB := n4_; clear n0_ n1_ n2_ n3_ n4_; (try clear hb); (try clear hb2); (try clear hk); (try clear hi); (try clear ho0); obtain ⟨Ao23, co23, eo23⟩ := Kd.R_slice HO249.out; subst eo23) | ((with_reducible refine gate_callee (f := 72) rfl ?_); refine goesL_ (some 28) rfl rfl Tryd.func72 (by kernel_rfl) rfl #[.slice Ao23 t247.length co23] rfl z8_1_ ?_; (with_reducible refine (impl_solutions.calls k1 _ _ t247 t250 _ ?side1 ?side2 A14.out).mono ?_); (case side1 => repeat (first | exact (Kd.R_reads' HO249.out).2.2 | (with_reducible refine Kd.C_alloc ?_ _) | (with_reducible refine Kd.C_drewN ?_ _) | (with_reducible refine Kd.C_drew ?_))); (case side2 => exact (Kd.R_reads' HO249.out).2.1); rintro e w24 ⟨v251, rfl, ho0, hb⟩; refine ⟨_, rfl, ?_⟩; have n0_ := Aside0.mk (Kd.R_below z8_19_ hb); have n1_ := Aside0.mk (Kd.R_below (by (with_reducible repeat (first | apply Kd.R_alloc | apply Kd.R_drewN | apply Kd.R_drew)); exact HO249.out) hb); have n2_ := Aside0.mk (Kd.R_lower ho0 (below_size z8_4_)); have n3_ := Aside0.mk (blk_below (g := gb240) (o := .cells #[.slice A0_0 l0_0.length c0_0] 37 (0, 0)) z8_8_ hb); have n4_ := Aside0.mk (blk_below (g := gb241) (o := .cells #[.slice none 0 0] 37 (0, 0)) z8_18_ hb); have n5_ := Aside0.mk (below_step z8_4_ hb); clear HO_6; clear HO249; clear BK240; clear BK241; clear HB; have HO_6 := n0_; have HO249 := n1_; have HO252 := n2_; have BK240 := n3_; have BK241 := n4_; have HB := n5_; clear n0_ n1_ n2_ n3_ n4_ n5_; (try clear hb); (try clear hb2); (try clear hk); (try clear hi); (try clear ho0); obtain ⟨Ao25, co25, eo25⟩ := Kd.R_slice HO252.out; subst eo25))
       go_roundg k1
       case measure => have := HK1.out; omega
       case rel => exact ⟨(x6_1), (wrap64 (x7_1 + 1)), (by first | rfl | (simp; done) | (simp [*]; done)), H', ⟨by have := HK1.out; omega⟩, ⟨by (with_reducible repeat (first | apply Kd.R_alloc | apply Kd.R_drewN | apply Kd.R_drew)); exact Kd.R_mono HO_6.out (fun _ hk => trivial)⟩, ⟨by (with_reducible repeat (first | refine blk_drewN ?_ _ | refine blk_drew ?_ | refine blk_alloc ?_ _)); exact BK240.out⟩, ⟨by (with_reducible repeat (first | refine blk_drewN ?_ _ | refine blk_drew ?_ | refine blk_alloc ?_ _)); exact BK241.out⟩, ⟨by repeat (first | (with_reducible first | exact HB.out | apply below_alloc | apply pw_below_drewN | apply below_drew1 | refine below_set ?_ GE240.out | refine below_set ?_ GE241.out) | exact HB.out)⟩⟩
     rw [if_neg c12] at H
     have c12b0 : decide (x7_1 < (x6_1.length : Int)) = false := decide_eq_false c12
     clear c12
     simp only [Option.some.injEq, Prod.mk.injEq] at H
     obtain ⟨rfl, rfl⟩ := H
     obtain ⟨Ao26, co26, eo26⟩ := Kd.R_slice HO_6.out
     subst eo26
     have hnb27 := NB241_240.out
     have hnc27 := NB240_241.out
     have hcz28_0 : wr.cell? ⟨gb241, 0, none⟩ = some (.slice none 0 0) := (blk_cell BK241.out 0).trans rfl
     have hfz28_0 := blk_frozen BK241.out 0
     go_wp2
     refine bodyPost_ret (results_ct rfl _ _ gb241 37 #[.slice Ao26 x6_1.length co26] (0, 0) _ rfl z8_21_ Tryd.underlying37 rfl (by kernel_rfl)) rfl ?_
     exact ⟨_, by first | rfl | (simp [errW_none, errW_some] <;> rfl) | (simp [*, errW_none, errW_some] <;> rfl), by (with_reducible repeat (first | apply Kd.R_alloc | apply Kd.R_drewN | apply Kd.R_drew)); exact Kd.R_mono (Kd.R_far (p := ⟨gb241, 0, none⟩) (Kd.R_types HO_6.out BK241.out (by decide)) (fun _ hk => hk.2) (.slice Ao26 x6_1.length co26)) (fun _ hk => trivial), by repeat (first | (with_reducible first | exact HB.out | apply below_alloc | apply pw_below_drewN | apply below_drew1 | refine below_set ?_ GE240.out | refine below_set ?_ GE241.out) | exact HB.out)⟩
 replace c3 := Bool.eq_false_iff.mpr c3
 subst c3
 have H1 : (some (([] : List (S26)), false)) = some (r1, r2) := by rw [if_neg (show ¬ (false = true) by decide)] at H; exact H
 clear H
 have H := H1
 clear H1
 simp only [Option.some.injEq, Prod.mk.injEq] at H
 obtain ⟨rfl, rfl⟩ := H
 go_enter Tryd.func48, Tryd.ntmps48
 go_wp2_with (first | ((with_reducible refine gate_dst (N := 1) rfl ?_); refine box_event ?hg (N := 1) ?hd (cs := #[.slice A0_0 l0_0.length c0_0]) (t := 37) ?hr ?_; (case hd => rfl); (case hg => rfl); (case hr => first | (go_simp; done) | (go_simp; rfl)); intro gb240 hg w29 hbox hb; have n0_ := Aside0.mk (below_step z8_3_ hb); have n1_ := Aside0.mk (hbox); have n2_ := Aside0.mk ((by rw [hg]; exact (below_size z8_3_) : w.heap.size ≤ gb240)); have n3_ := Aside0.mk ((by rw [hg]; exact (below_size z8_3_) : w.heap.size ≤ gb240)); clear HB; have HB := n0_; have BK240 := n1_; have GW240 := n2_; have GE240 := n3_; clear n0_ n1_ n2_ n3_; clear hb hbox hg) | ((with_reducible refine gate_dst (N := 2) rfl ?_); refine box_event ?hg (N := 2) ?hd (cs := #[.slice none 0 0]) (t := 37) ?hr ?_; (case hd => rfl); (case hg => rfl); (case hr => first | (go_simp; done) | (go_simp; rfl)); intro gb241 hg w30 hbox hb; have n0_ := Aside0.mk (blk_below (g := gb240) (o := .cells #[.slice A0_0 l0_0.length c0_0] 37 (0, 0)) z8_8_ hb); have n1_ := Aside0.mk (below_step z8_16_ hb); have n2_ := Aside0.mk (hbox); have n3_ := Aside0.mk ((by rw [hg]; exact (below_size z8_16_) : w.heap.size ≤ gb241)); have n4_ := Aside0.mk ((by rw [hg]; exact (below_size z8_16_) : w.heap.size ≤ gb241)); have n5_ := Aside0.mk ((by rw [hg]; exact Nat.ne_of_lt (blk_lt (g := gb240) (o := .cells #[.slice A0_0 l0_0.length c0_0] 37 (0, 0)) z8_8_) : gb240 ≠ gb241)); have n6_ := Aside0.mk ((by rw [hg]; exact Nat.ne_of_gt (blk_lt (g := gb240) (o := .cells #[.slice A0_0 l0_0.length c0_0] 37 (0, 0)) z8_8_) : gb241 ≠ gb240)); clear BK240; clear HB; have BK240 := n0_; have HB := n1_; have BK241 := n2_; have GW241 := n3_; have GE241 := n4_; have NB240_241 := n5_; have NB241_240 := n6_; clear n0_ n1_ n2_ n3_ n4_ n5_ n6_; clear hb hbox hg; have hnb31 := NB240_241.out; have hnc31 := NB241_240.out; have hcz32_0 : w30.cell? ⟨gb240, 0, none⟩ = some (.slice A0_0 l0_0.length c0_0) := (blk_cell BK240.out 0).trans rfl; have hfz32_0 := blk_frozen BK240.out 0) | ((with_reducible refine gate_callee (f := 24) rfl ?_); refine goesL_ (some 11) rfl rfl Tryd.func24 (by kernel_rfl) rfl #[.agg #[.slice A0_0 l0_0.length c0_0]] rfl z8_1_ ?_; (with_reducible refine (impl_IsSolved.calls k _ _ l0_0 false t243 _ ?side1 ?side2 A2.out).mono ?_); (case side1 => repeat (first | exact (Kd.C_below HR0_0.out HB.out) | (with_reducible refine Kd.C_alloc ?_ _) | (with_reducible refine Kd.C_drewN ?_ _) | (with_reducible refine Kd.C_drew ?_))); (case side2 => exact HC0_0.out); rintro e w33 ⟨rfl, hb⟩; refine ⟨_, rfl, ?_⟩; have n0_ := Aside0.mk (blk_below (g := gb240) (o := .cells #[.slice A0_0 l0_0.length c0_0] 37 (0, 0)) z8_8_ hb); have n1_ := Aside0.mk (blk_below (g := gb241) (o := .cells #[.slice none 0 0] 37 (0, 0)) z8_18_ hb); have n2_ := Aside0.mk (below_step z8_4_ hb); clear BK240; clear BK241; clear HB; have BK240 := n0_; have BK241 := n1_; have HB := n2_; clear n0_ n1_ n2_; (try clear hb); (try clear hb2); (try clear hk); (try clear hi); have hcz34_0 : w33.cell? ⟨gb241, 0, none⟩ = some (.slice none 0 0) := (blk_cell BK241.out 0).trans rfl; have hfz34_0 := blk_frozen BK241.out 0))
 refine bodyPost_ret (results_ct rfl _ _ gb241 37 #[.slice none 0 0] (0, 0) _ rfl z8_21_ Tryd.underlying37 rfl (by kernel_rfl)) rfl ?_
 exact ⟨_, by first | rfl | (simp [errW_none, errW_some] <;> rfl) | (simp [*, errW_none, errW_some] <;> rfl), by first | exact Kd.R_nil _ _ _ _ _ | exact Kd.N_nil _ _ _ _ _ | exact Kd.V_nil _ _ _ _ _ | exact Kd.Q_nil _ _ _ _ _ | exact Kd.S_nil _ _ _ _ _, by repeat (first | (with_reducible first | exact HB.out | apply below_alloc | apply pw_below_drewN | apply below_drew1 | refine below_set ?_ GE240.out | refine below_set ?_ GE241.out) | exact HB.out)⟩

/-! ### laws_FnExactHarderPuzzle: function 13 -/
def laws_FnExactHarderPuzzle.f (k : Nat) (l0_0 : List (S23)) : Option (Bool) := (laws_szPuzzle.f l0_0 1048576).bind fun t254 => (if t254 < 0 then (some true) else ((laws_toPuzzle.f k l0_0).bind fun t255 => ((spec_HarderPuzzle.f k t255).bind fun bt258 => ((laws_toPuzzle.f k l0_0).bind fun t263 => ((impl_HarderPuzzle.f k t263).bind fun bt267 => ((laws_eqPuzzle.f k bt267.1 bt258.1).bind fun t273 => (if t273 = true then (if (bt267.2 != bt258.2) = true then (some false) else ((laws_toPuzzle.f k l0_0).bind fun t274 => ((laws_eqPuzzle.f k t263 t274).bind fun t277 => (if t277 = true then ((laws_markPuzzle.f k t263 1).bind fun bt278 => (if bt278.1 < 0 then (some false) else ((laws_eqPuzzle.f k bt267.1 bt258.1).bind fun t281 => (if t281 = true then ((laws_markPuzzle.f k bt267.1 1).bind fun bt282 => ((laws_heldPuzzle.f k bt282.2 1).bind fun t284 => (if t284 < 0 then (some false) else (if t284 = bt282.1 then ((laws_toPuzzle.f k l0_0).bind fun t285 => ((impl_HarderPuzzle.f k t285).bind fun bt288 => ((laws_eqPuzzle.f k bt288.1 bt258.1).bind fun t294 => (if t294 = true then (if (bt288.2 != bt258.2) = true then (some false) else ((laws_heldPuzzle.f k bt282.2 1).bind fun t295 => (if t295 < 0 then (some false) else (if t295 = bt282.1 then (some true) else (some false))))) else (some false))))) else (some false))))) else (some false))))) else (some false))))) else (some false))))))))
set_option maxHeartbeats 8000000 in
set_option maxRecDepth 100000 in
theorem laws_FnExactHarderPuzzle.calls (k : Nat) (A0_0 : Option Addr) (c0_0 : Nat) (l0_0 : List (S23)) (r : Bool) (w : World) (hr0_0 : Kd.C k23 w A0_0 l0_0.length l0_0) (hc0_0 : l0_0.length ≤ c0_0) (hr_ : Aside0 (r = true)) (h : laws_FnExactHarderPuzzle.f k l0_0 = some r) :
 Calls Tryd.prog 13 #[.agg #[.slice A0_0 l0_0.length c0_0]] w fun e w' => e = .returned (.bool r) ∧ Below w.heap.size w w' := by
 have hu31 := Tryd.underlying31
 have hu37 := Tryd.underlying37
 have HR0_0 := Aside0.mk hr0_0
 have HC0_0 := Aside0.mk hc0_0
 clear hr0_0 hc0_0
 have HB := Aside0.mk (Below.refl w.heap.size w)
 have H : ((laws_szPuzzle.f l0_0 1048576).bind fun t254 => (if t254 < 0 then (some true) else ((laws_toPuzzle.f k l0_0).bind fun t255 => ((spec_HarderPuzzle.f k t255).bind fun bt258 => ((laws_toPuzzle.f k l0_0).bind fun t263 => ((impl_HarderPuzzle.f k t263).bind fun bt267 => ((laws_eqPuzzle.f k bt267.1 bt258.1).bind fun t273 => (if t273 = true then (if (bt267.2 != bt258.2) = true then (some false) else ((laws_toPuzzle.f k l0_0).bind fun t274 => ((laws_eqPuzzle.f k t263 t274).bind fun t277 => (if t277 = true then ((laws_markPuzzle.f k t263 1).bind fun bt278 => (if bt278.1 < 0 then (some false) else ((laws_eqPuzzle.f k bt267.1 bt258.1).bind fun t281 => (if t281 = true then ((laws_markPuzzle.f k bt267.1 1).bind fun bt282 => ((laws_heldPuzzle.f k bt282.2 1).bind fun t284 => (if t284 < 0 then (some false) else (if t284 = bt282.1 then ((laws_toPuzzle.f k l0_0).bind fun t285 => ((impl_HarderPuzzle.f k t285).bind fun bt288 => ((laws_eqPuzzle.f k bt288.1 bt258.1).bind fun t294 => (if t294 = true then (if (bt288.2 != bt258.2) = true then (some false) else ((laws_heldPuzzle.f k bt282.2 1).bind fun t295 => (if t295 < 0 then (some false) else (if t295 = bt282.1 then (some true) else (some false))))) else (some false))))) else (some false))))) else (some false))))) else (some false))))) else (some false))))))))) = some r := h
 clear h
 replace H := Option.bind_eq_some_iff.mp H
 obtain ⟨t254, A20, H⟩ := H
 have A2 := Aside0.mk A20
 clear A20
 by_cases c3 : t254 < 0
 · rw [if_pos c3] at H
   have c3b0 : decide (t254 < 0) = true := decide_eq_true c3
   clear c3
   obtain rfl := Option.some.inj H
   go_enter Tryd.func13, Tryd.ntmps13
   go_wp2_with (first | ((with_reducible refine gate_dst (N := 1) rfl ?_); refine box_event ?hg (N := 1) ?hd (cs := #[.slice A0_0 l0_0.length c0_0]) (t := 31) ?hr ?_; (case hd => rfl); (case hg => rfl); (case hr => first | (go_simp; done) | (go_simp; rfl)); intro gb253 hg w4 hbox hb; have n0_ := Aside0.mk (below_step z8_3_ hb); have n1_ := Aside0.mk (hbox); have n2_ := Aside0.mk ((by rw [hg]; exact (below_size z8_3_) : w.heap.size ≤ gb253)); have n3_ := Aside0.mk ((by rw [hg]; exact (below_size z8_3_) : w.heap.size ≤ gb253)); clear HB; have HB := n0_; have BK253 := n1_; have GW253 := n2_; have GE253 := n3_; clear n0_ n1_ n2_ n3_; clear hb hbox hg; have hcz5_0 : w4.cell? ⟨gb253, 0, none⟩ = some (.slice A0_0 l0_0.length c0_0) := (blk_cell BK253.out 0).trans rfl; have hfz5_0 := blk_frozen BK253.out 0) | ((with_reducible refine gate_callee (f := 18) rfl ?_); refine goesL_ (some 16) rfl rfl Tryd.func18 (by kernel_rfl) rfl #[.agg #[.slice A0_0 l0_0.length c0_0], .int .i64 1048576] rfl z8_1_ ?_; (with_reducible refine (laws_szPuzzle.calls _ _ l0_0 1048576 t254 _ ?side1 ?side2 A2.out).mono ?_); (case side1 => repeat (first | exact (Kd.C_below HR0_0.out HB.out) | (with_reducible refine Kd.C_alloc ?_ _) | (with_reducible refine Kd.C_drewN ?_ _) | (with_reducible refine Kd.C_drew ?_))); (case side2 => exact HC0_0.out); rintro e w6 ⟨rfl, hb⟩; refine ⟨_, rfl, ?_⟩; have n0_ := Aside0.mk (blk_below (g := gb253) (o := .cells #[.slice A0_0 l0_0.length c0_0] 31 (0, 0)) z8_2_ hb); have n1_ := Aside0.mk (below_step z8_10_ hb); clear BK253; clear HB; have BK253 := n0_; have HB := n1_; clear n0_ n1_; (try clear hb); (try clear hb2); (try clear hk); (try clear hi)))
   go_ret
   exact ⟨by first | rfl | (simp [errW_none, errW_some] <;> rfl) | (simp [*, errW_none, errW_some] <;> rfl), by repeat (first | (with_reducible first | exact HB.out | apply below_alloc | apply pw_below_drewN | apply below_drew1 | refine below_set ?_ GE253.out) | exact HB.out)⟩
 rw [if_neg c3] at H
 have c3b0 : decide (t254 < 0) = false := decide_eq_false c3
 clear c3
 replace H := Option.bind_eq_some_iff.mp H
 obtain ⟨t255, A70, H⟩ := H
 have A7 := Aside0.mk A70
 clear A70
 replace H := Option.bind_eq_some_iff.mp H
 obtain ⟨⟨t258, t261⟩, A80, H⟩ := H
 dsimp only at H
 have A8 := Aside0.mk A80
 clear A80
 replace H := Option.bind_eq_some_iff.mp H
 obtain ⟨t263, A90, H⟩ := H
 have A9 := Aside0.mk A90
 clear A90
 replace H := Option.bind_eq_some_iff.mp H
 obtain ⟨⟨t267, t270⟩, A100, H⟩ := H
 dsimp only at H
 have A10 := Aside0.mk A100
 clear A100
 replace H := Option.bind_eq_some_iff.mp H
 obtain ⟨t273, A110, H⟩ := H
 have A11 := Aside0.mk A110
 clear A110
 by_cases c12 : t273 = true
 · subst c12
   rw [if_pos rfl] at H
   by_cases c13 : (t270 != t261) = true
   · exact dead_ (if_pos c13) H hr_
   rw [if_neg c13] at H
   have c13b0 : (t270 != t261) = false := by simpa using c13
   (try (have c13b1 : decide (t270 = t261) = true := by simpa using c13))
   (try (have c13b2 : (t270 == t261) = true := by simpa using c13))
   clear c13
   replace H := Option.bind_eq_some_iff.mp H
   obtain ⟨t274, A140, H⟩ := H
   have A14 := Aside0.mk A140
   clear A140
   replace H := Option.bind_eq_some_iff.mp H
   obtain ⟨t277, A150, H⟩ := H
   have A15 := Aside0.mk A150
   clear A150
   by_cases c16 : t277 = true
   · subst c16
     rw [if_pos rfl] at H
     replace H := Option.bind_eq_some_iff.mp H
     obtain ⟨⟨t278, t279⟩, A170, H⟩ := H
     dsimp only at H
     have A17 := Aside0.mk A170
     clear A170
     by_cases c18 : t278 < 0
     · exact dead_ (if_pos c18) H hr_
     rw [if_neg c18] at H
     have c18b0 : decide (t278 < 0) = false := decide_eq_false c18
     clear c18
     replace H := Option.bind_eq_some_iff.mp H
     obtain ⟨t281, A190, H⟩ := H
     have A19 := Aside0.mk A190
     clear A190
     by_cases c20 : t281 = true
     · subst c20
       rw [if_pos rfl] at H
       replace H := Option.bind_eq_some_iff.mp H
       obtain ⟨⟨t282, t283⟩, A210, H⟩ := H
       dsimp only at H
       have A21 := Aside0.mk A210
       clear A210
       replace H := Option.bind_eq_some_iff.mp H
       obtain ⟨t284, A220, H⟩ := H
       have A22 := Aside0.mk A220
       clear A220
       by_cases c23 : t284 < 0
       · exact dead_ (if_pos c23) H hr_
       rw [if_neg c23] at H
       have c23b0 : decide (t284 < 0) = false := decide_eq_false c23
       clear c23
       by_cases c24 : t284 = t282
       rotate_left
       · exact dead_ (if_neg c24) H hr_
       rw [if_pos c24] at H
       have c24b0 : (t284 == t282) = true := beq_iff_eq.mpr c24
       have c24b1 : (t284 != t282) = false := bne_eq_false_iff_eq.mpr c24
       clear c24
       replace H := Option.bind_eq_some_iff.mp H
       obtain ⟨t285, A250, H⟩ := H
       have A25 := Aside0.mk A250
       clear A250
       replace H := Option.bind_eq_some_iff.mp H
       obtain ⟨⟨t288, t291⟩, A260, H⟩ := H
       dsimp only at H
       have A26 := Aside0.mk A260
       clear A260
       replace H := Option.bind_eq_some_iff.mp H
       obtain ⟨t294, A270, H⟩ := H
       have A27 := Aside0.mk A270
       clear A270
       by_cases c28 : t294 = true
       · subst c28
         rw [if_pos rfl] at H
         by_cases c29 : (t291 != t261) = true
         · exact dead_ (if_pos c29) H hr_
         rw [if_neg c29] at H
         have c29b0 : (t291 != t261) = false := by simpa using c29
         (try (have c29b1 : decide (t291 = t261) = true := by simpa using c29))
         (try (have c29b2 : (t291 == t261) = true := by simpa using c29))
         clear c29
         replace H := Option.bind_eq_some_iff.mp H
         obtain ⟨t295, A300, H⟩ := H
         have A30 := Aside0.mk A300
         clear A300
         by_cases c31 : t295 < 0
         · exact dead_ (if_pos c31) H hr_
         rw [if_neg c31] at H
         have c31b0 : decide (t295 < 0) = false := decide_eq_false c31
         clear c31
         by_cases c32 : t295 = t282
         rotate_left
         · exact dead_ (if_neg c32) H hr_
         rw [if_pos c32] at H
         have c32b0 : (t295 == t282) = true := beq_iff_eq.mpr c32
         have c32b1 : (t295 != t282) = false := bne_eq_false_iff_eq.mpr c32
         clear c32
         obtain rfl := Option.some.inj H
         go_enter Tryd.func13, Tryd.ntmps13
         try go_wp2_with (first | ((with_reducible refine gate_dst (N := 1) rfl ?_); refine box_event ?hg (N := 1) ?hd (cs := #[.slice A0_0 l0_0.length c0_0]) (t := 31) ?hr ?_; (case hd => rfl); (case hg => rfl); (case hr => first | (go_simp; done) | (go_simp; rfl)); intro gb253 hg w33 hbox hb; have n0_ := Aside0.mk (below_step z8_3_ hb); have n1_ := Aside0.mk (hbox); have n2_ := Aside0.mk ((by rw [hg]; exact (below_size z8_3_) : w.heap.size ≤ gb253)); have n3_ := Aside0.mk ((by rw [hg]; exact (below_size z8_3_) : w.heap.size ≤ gb253)); clear HB; have HB := n0_; have BK253 := n1_; have GW253 := n2_; have GE253 := n3_; clear n0_ n1_ n2_ n3_; clear hb hbox hg; have hcz34_0 : w33.cell? ⟨gb253, 0, none⟩ = some (.slice A0_0 l0_0.length c0_0) := (blk_cell BK253.out 0).trans rfl; have hfz34_0 := blk_frozen BK253.out 0) | ((with_reducible refine gate_callee (f := 18) rfl ?_); refine goesL_ (some 16) rfl rfl Tryd.func18 (by kernel_rfl) rfl #[.agg #[.slice A0_0 l0_0.length c0_0], .int .i64 1048576] rfl z8_1_ ?_; (with_reducible refine (laws_szPuzzle.calls _ _ l0_0 1048576 t254 _ ?side1 ?side2 A2.out).mono ?_); (case side1 => repeat (first | exact (Kd.C_below HR0_0.out HB.out) | (with_reducible refine Kd.C_alloc ?_ _) | (with_reducible refine Kd.C_drewN ?_ _) | (with_reducible refine Kd.C_drew ?_))); (case side2 => exact HC0_0.out); rintro e w35 ⟨rfl, hb⟩; refine ⟨_, rfl, ?_⟩; have n0_ := Aside0.mk (blk_below (g := gb253) (o := .cells #[.slice A0_0 l0_0.length c0_0] 31 (0, 0)) z8_2_ hb); have n1_ := Aside0.mk (below_step z8_10_ hb); clear BK253; clear HB; have BK253 := n0_; have HB := n1_; clear n0_ n1_; (try clear hb); (try clear hb2); (try clear hk); (try clear hi); have hcz36_0 : w35.cell? ⟨gb253, 0, none⟩ = some (.slice A0_0 l0_0.length c0_0) := (blk_cell BK253.out 0).trans rfl; have hfz36_0 := blk_frozen BK253.out 0) | ((with_reducible refine gate_callee (f := 20) rfl ?_); refine goesL_ (some 21) rfl rfl Tryd.func20 (by kernel_rfl) rfl #[.agg #[.slice A0_0 l0_0.length c0_0]] rfl z8_1_ ?_; (with_reducible refine (laws_toPuzzle.calls k _ _ l0_0 t255 _ ?side1 ?side2 A7.out).mono ?_); (case side1 => repeat (first | exact (Kd.C_below HR0_0.out HB.out) | (with_reducible refine Kd.C_alloc ?_ _) | (with_reducible refine Kd.C_drewN ?_ _) | (with_reducible refine Kd.C_drew ?_))); (case side2 => exact HC0_0.out); rintro e w37 ⟨v256, rfl, ho0, hb⟩; refine ⟨_, rfl, ?_⟩; have n0_ := Aside0.mk (Kd.R_lower ho0 (below_size z8_10_)); have n1_ := Aside0.mk (blk_below (g := gb253) (o := .cells #[.slice A0_0 l0_0.length c0_0] 31 (0, 0)) z8_2_ hb); have n2_ := Aside0.mk (below_step z8_10_ hb); clear BK253; clear HB; have HO257 := n0_; have BK253 := n1_; have HB := n2_; clear n0_ n1_ n2_; (try clear hb); (try clear hb2); (try clear hk); (try clear hi); (try clear ho0); obtain ⟨Ao38, co38, eo38⟩ := Kd.R_slice HO257.out; subst eo38) | ((with_reducible refine gate_callee (f := 47) rfl ?_); refine goesL_ (some 22) rfl rfl Tryd.func47 (by kernel_rfl) rfl #[.agg #[.slice Ao38 t255.length co38]] rfl z8_1_ ?_; (with_reducible refine (spec_HarderPuzzle.calls k _ _ t255 t258 t261 _ ?side1 ?side2 A8.out).mono ?_); (case side1 => repeat (first | exact (Kd.R_reads' HO257.out).2.2 | (with_reducible refine Kd.C_alloc ?_ _) | (with_reducible refine Kd.C_drewN ?_ _) | (with_reducible refine Kd.C_drew ?_))); (case side2 => exact (Kd.R_reads' HO257.out).2.1); rintro e w39 ⟨v259, rfl, ho0, hb⟩; refine ⟨_, rfl, ?_⟩; have n0_ := Aside0.mk (Kd.R_elder' z8_7_ (Kd.R_base ho0) hb); have n1_ := Aside0.mk (Kd.R_lower (Kd.R_new' ho0 (Kd.R_lt z8_7_)) (below_size z8_10_)); have n2_ := Aside0.mk (blk_below (g := gb253) (o := .cells #[.slice A0_0 l0_0.length c0_0] 31 (0, 0)) z8_2_ hb); have n3_ := Aside0.mk (below_step z8_10_ hb); clear HO257; clear BK253; clear HB; have HO257 := n0_; have HO260 := n1_; have BK253 := n2_; have HB := n3_; clear n0_ n1_ n2_ n3_; (try clear hb); (try clear hb2); (try clear hk); (try clear hi); (try clear ho0)) | ((with_reducible refine gate_dst (N := 4) rfl ?_); refine box_event ?hg (N := 4) ?hd (cs := #[.slice none 0 0]) (t := 37) ?hr ?_; (case hd => rfl); (case hg => rfl); (case hr => first | (go_simp; done) | (go_simp; rfl)); intro gb262 hg w40 hbox hb; have n0_ := Aside0.mk (Kd.R_below z8_7_ hb); have n1_ := Aside0.mk (Kd.R_below z8_9_ hb); have n2_ := Aside0.mk (blk_below (g := gb253) (o := .cells #[.slice A0_0 l0_0.length c0_0] 31 (0, 0)) z8_2_ hb); have n3_ := Aside0.mk (below_step z8_10_ hb); have n4_ := Aside0.mk (hbox); have n5_ := Aside0.mk ((by rw [hg]; exact (below_size z8_10_) : w.heap.size ≤ gb262)); have n6_ := Aside0.mk ((by rw [hg]; exact (below_size z8_10_) : w.heap.size ≤ gb262)); have n7_ := Aside0.mk ((by rw [hg]; exact Nat.ne_of_lt (blk_lt (g := gb253) (o := .cells #[.slice A0_0 l0_0.length c0_0] 31 (0, 0)) z8_2_) : gb253 ≠ gb262)); have n8_ := Aside0.mk ((by rw [hg]; exact Nat.ne_of_gt (blk_lt (g := gb253) (o := .cells #[.slice A0_0 l0_0.length c0_0] 31 (0, 0)) z8_2_) : gb262 ≠ gb253)); clear HO257; clear HO260; clear BK253; clear HB; have HO257 := n0_; have HO260 := n1_; have BK253 := n2_; have HB := n3_; have BK262 := n4_; have GW262 := n5_; have GE262 := n6_; have NB253_262 := n7_; have NB262_253 := n8_; clear n0_ n1_ n2_ n3_ n4_ n5_ n6_ n7_ n8_; clear hb hbox hg; obtain ⟨Ao41, co41, eo41⟩ := Kd.R_slice HO260.out; subst eo41; have hnb42 := NB262_253.out; have hnc42 := NB253_262.out; have hcz43_0 : w40.cell? ⟨gb262, 0, none⟩ = some (.slice none 0 0) := (blk_cell BK262.out 0).trans rfl; have hfz43_0 := blk_frozen BK262.out 0; have hcz44_0 : w40.cell? ⟨gb253, 0, none⟩ = some (.slice A0_0 l0_0.length c0_0) := (blk_cell BK253.out 0).trans rfl; have hfz44_0 := blk_frozen BK253.out 0) | ((with_reducible refine gate_callee (f := 20) rfl ?_); refine goesL_ (some 26) rfl rfl Tryd.func20 (by kernel_rfl) rfl #[.agg #[.slice A0_0 l0_0.length c0_0]] rfl z8_1_ ?_; (with_reducible refine (laws_toPuzzle.calls k _ _ l0_0 t263 _ ?side1 ?side2 A9.out).mono ?_); (case side1 => exact Kd.C_below HR0_0.out z8_14_); (case side2 => exact HC0_0.out); rintro e w45 ⟨v264, rfl, ho0, hb⟩; refine ⟨_, rfl, ?_⟩; have n0_ := Aside0.mk (Kd.R_elder' (by (with_reducible repeat (first | apply Kd.R_alloc | apply Kd.R_drewN | apply Kd.R_drew)); exact (Kd.R_mono (Kd.R_far (p := ⟨gb262, 0, none⟩) (Kd.R_types HO257.out BK262.out (by decide)) (fun _ hk => hk.2) (.slice Ao41 t258.length co41)) (fun _ h_ => h_.1))) (Kd.R_base ho0) hb); have n1_ := Aside0.mk (Kd.R_elder' (by (with_reducible repeat (first | apply Kd.R_alloc | apply Kd.R_drewN | apply Kd.R_drew)); exact (Kd.R_mono (Kd.R_far (p := ⟨gb262, 0, none⟩) (Kd.R_types HO260.out BK262.out (by decide)) (fun _ hk => hk.2) (.slice Ao41 t258.length co41)) (fun _ h_ => h_.1))) (Kd.R_base ho0) hb); have n2_ := Aside0.mk (Kd.R_lower (Kd.R_new' (Kd.R_new' ho0 (Kd.R_lt (by (with_reducible repeat (first | apply Kd.R_alloc | apply Kd.R_drewN | apply Kd.R_drew)); exact (Kd.R_mono (Kd.R_far (p := ⟨gb262, 0, none⟩) (Kd.R_types HO257.out BK262.out (by decide)) (fun _ hk => hk.2) (.slice Ao41 t258.length co41)) (fun _ h_ => h_.1))))) (Kd.R_lt (by (with_reducible repeat (first | apply Kd.R_alloc | apply Kd.R_drewN | apply Kd.R_drew)); exact (Kd.R_mono (Kd.R_far (p := ⟨gb262, 0, none⟩) (Kd.R_types HO260.out BK262.out (by decide)) (fun _ hk => hk.2) (.slice Ao41 t258.length co41)) (fun _ h_ => h_.1))))) (below_size z8_14_)); have n3_ := Aside0.mk (blk_below (g := gb253) (o := .cells #[.slice A0_0 l0_0.length c0_0] 31 (0, 0)) (by (with_reducible repeat (first | refine blk_drewN ?_ _ | refine blk_drew ?_ | refine blk_alloc ?_ _)); refine blk_far ?_ NB253_262.out _; (with_reducible repeat (first | refine blk_drewN ?_ _ | refine blk_drew ?_ | refine blk_alloc ?_ _)); exact BK253.out) hb); have n4_ := Aside0.mk (blk_below (g := gb262) (o := .cells #[.slice Ao41 t258.length co41] 37 (0, 0)) (by (with_reducible repeat (first | refine blk_drewN ?_ _ | refine blk_drew ?_ | refine blk_alloc ?_ _)); refine blk_put (cs := #[.slice none 0 0]) ?_ 0 _ rfl; (with_reducible repeat (first | refine blk_drewN ?_ _ | refine blk_drew ?_ | refine blk_alloc ?_ _)); exact BK262.out) hb); have n5_ := Aside0.mk (below_step z8_14_ hb); clear HO257; clear HO260; clear BK253; clear BK262; clear HB; have HO257 := n0_; have HO260 := n1_; have HO265 := n2_; have BK253 := n3_; have BK262 := n4_; have HB := n5_; clear n0_ n1_ n2_ n3_ n4_ n5_; (try clear hb); (try clear hb2); (try clear hk); (try clear hi); (try clear ho0)) | ((with_reducible refine gate_dst (N := 6) rfl ?_); refine box_event ?hg (N := 6) ?hd (cs := #[.slice none 0 0]) (t := 37) ?hr ?_; (case hd => rfl); (case hg => rfl); (case hr => first | (go_simp; done) | (go_simp; rfl)); intro gb266 hg w46 hbox hb; have n0_ := Aside0.mk (Kd.R_below z8_7_ hb); have n1_ := Aside0.mk (Kd.R_below z8_9_ hb); have n2_ := Aside0.mk (Kd.R_below z8_12_ hb); have n3_ := Aside0.mk (blk_below (g := gb253) (o := .cells #[.slice A0_0 l0_0.length c0_0] 31 (0, 0)) z8_2_ hb); have n4_ := Aside0.mk (blk_below (g := gb262) (o := .cells #[.slice Ao41 t258.length co41] 37 (0, 0)) z8_5_ hb); have n5_ := Aside0.mk (below_step z8_14_ hb); have n6_ := Aside0.mk (hbox); have n7_ := Aside0.mk ((by rw [hg]; exact (below_size z8_14_) : w.heap.size ≤ gb266)); have n8_ := Aside0.mk ((by rw [hg]; exact (below_size z8_14_) : w.heap.size ≤ gb266)); have n9_ := Aside0.mk ((by rw [hg]; exact Nat.ne_of_lt (blk_lt (g := gb253) (o := .cells #[.slice A0_0 l0_0.length c0_0] 31 (0, 0)) z8_2_) : gb253 ≠ gb266)); have n10_ := Aside0.mk ((by rw [hg]; exact Nat.ne_of_gt (blk_lt (g := gb253) (o := .cells #[.slice A0_0 l0_0.length c0_0] 31 (0, 0)) z8_2_) : gb266 ≠ gb253)); have n11_ := Aside0.mk ((by rw [hg]; exact Nat.ne_of_lt (blk_lt (g := gb262) (o := .cells #[.slice Ao41 t258.length co41] 37 (0, 0)) z8_5_) : gb262 ≠ gb266)); have n12_ := Aside0.mk ((by rw [hg]; exact Nat.ne_of_gt (blk_lt (g := gb262) (o := .cells #[.slice Ao41 t258.length co41] 37 (0, 0)) z8_5_) : gb266 ≠ gb262)); clear HO257; clear HO260; clear HO265; clear BK253; clear BK262; clear HB; have HO257 := n0_; have HO260 := n1_; have HO265 := n2_; have BK253 := n3_; have BK262 := n4_; have HB := n5_; have BK266 := n6_; have GW266 := n7_; have GE266 := n8_; have NB253_266 := n9_; have NB266_253 := n10_; have NB262_266 := n11_; have NB266_262 := n12_; clear n0_ n1_ n2_ n3_ n4_ n5_ n6_ n7_ n8_ n9_ n10_ n11_ n12_; clear hb hbox hg; obtain ⟨Ao47, co47, eo47⟩ := Kd.R_slice HO265.out; subst eo47; have hnb48 := NB266_253.out; have hnc48 := NB253_266.out; have hnb49 := NB266_262.out; have hnc49 := NB262_266.out; have hcz50_0 : w46.cell? ⟨gb266, 0, none⟩ = some (.slice none 0 0) := (blk_cell BK266.out 0).trans rfl; have hfz50_0 := blk_frozen BK266.out 0) | ((with_reducible refine gate_callee (f := 48) rfl ?_); refine goesL_ (some 29) rfl rfl Tryd.func48 (by kernel_rfl) rfl #[.agg #[.slice Ao47 t263.length co47]] rfl z8_1_ ?_; (with_reducible refine (impl_HarderPuzzle.calls k _ _ t263 t267 t270 _ ?side1 ?side2 A10.out).mono ?_); (case side1 => refine (Kd.R_reads' (e := 26) (base := w.heap.size) (ok := fun k_ => ((True ∧ some k_ ≠ (.slice Ao38 t255.length co38 : Value).ownBlock) ∧ some k_ ≠ (.slice Ao41 t258.length co41 : Value).ownBlock)) (n := t263.length) (c := co47) ?_).2.2; exact (by (with_reducible repeat (first | apply Kd.R_alloc | apply Kd.R_drewN | apply Kd.R_drew)); exact (Kd.R_mono (Kd.R_far (p := ⟨gb266, 0, none⟩) (Kd.R_types HO265.out BK266.out (by decide)) (fun _ hk => hk.2) (.slice Ao47 t263.length co47)) (fun _ h_ => h_.1)))); (case side2 => exact (Kd.R_reads' HO265.out).2.1); rintro e w51 ⟨v268, rfl, ho0, hb⟩; refine ⟨_, rfl, ?_⟩; have n0_ := Aside0.mk (Kd.R_elder' (by (with_reducible repeat (first | apply Kd.R_alloc | apply Kd.R_drewN | apply Kd.R_drew)); exact (Kd.R_mono (Kd.R_far (p := ⟨gb266, 0, none⟩) (Kd.R_types HO257.out BK266.out (by decide)) (fun _ hk => hk.2) (.slice Ao47 t263.length co47)) (fun _ h_ => h_.1))) (Kd.R_base ho0) hb); have n1_ := Aside0.mk (Kd.R_elder' (by (with_reducible repeat (first | apply Kd.R_alloc | apply Kd.R_drewN | apply Kd.R_drew)); exact (Kd.R_mono (Kd.R_far (p := ⟨gb266, 0, none⟩) (Kd.R_types HO260.out BK266.out (by decide)) (fun _ hk => hk.2) (.slice Ao47 t263.length co47)) (fun _ h_ => h_.1))) (Kd.R_base ho0) hb); have n2_ := Aside0.mk (Kd.R_elder' (by (with_reducible repeat (first | apply Kd.R_alloc | apply Kd.R_drewN | apply Kd.R_drew)); exact (Kd.R_mono (Kd.R_far (p := ⟨gb266, 0, none⟩) (Kd.R_types HO265.out BK266.out (by decide)) (fun _ hk => hk.2) (.slice Ao47 t263.length co47)) (fun _ h_ => h_.1))) (Kd.R_base ho0) hb); have n3_ := Aside0.mk (Kd.R_lower (Kd.R_new' (Kd.R_new' (Kd.R_new' ho0 (Kd.R_lt (by (with_reducible repeat (first | apply Kd.R_alloc | apply Kd.R_drewN | apply Kd.R_drew)); exact (Kd.R_mono (Kd.R_far (p := ⟨gb266, 0, none⟩) (Kd.R_types HO257.out BK266.out (by decide)) (fun _ hk => hk.2) (.slice Ao47 t263.length co47)) (fun _ h_ => h_.1))))) (Kd.R_lt (by (with_reducible repeat (first | apply Kd.R_alloc | apply Kd.R_drewN | apply Kd.R_drew)); exact (Kd.R_mono (Kd.R_far (p := ⟨gb266, 0, none⟩) (Kd.R_types HO260.out BK266.out (by decide)) (fun _ hk => hk.2) (.slice Ao47 t263.length co47)) (fun _ h_ => h_.1))))) (Kd.R_lt (by (with_reducible repeat (first | apply Kd.R_alloc | apply Kd.R_drewN | apply Kd.R_drew)); exact (Kd.R_mono (Kd.R_far (p := ⟨gb266, 0, none⟩) (Kd.R_types HO265.out BK266.out (by decide)) (fun _ hk => hk.2) (.slice Ao47 t263.length co47)) (fun _ h_ => h_.1))))) (below_size z8_15_)); have n4_ := Aside0.mk (blk_below (g := gb253) (o := .cells #[.slice A0_0 l0_0.length c0_0] 31 (0, 0)) (by (with_reducible repeat (first | refine blk_drewN ?_ _ | refine blk_drew ?_ | refine blk_alloc ?_ _)); refine blk_far ?_ NB253_266.out _; (with_reducible repeat (first | refine blk_drewN ?_ _ | refine blk_drew ?_ | refine blk_alloc ?_ _)); exact BK253.out) hb); have n5_ := Aside0.mk (blk_below (g := gb262) (o := .cells #[.slice Ao41 t258.length co41] 37 (0, 0)) (by (with_reducible repeat (first | refine blk_drewN ?_ _ | refine blk_drew ?_ | refine blk_alloc ?_ _)); refine blk_far ?_ NB262_266.out _; (with_reducible repeat (first | refine blk_drewN ?_ _ | refine blk_drew ?_ | refine blk_alloc ?_ _)); exact BK262.out) hb); have n6_ := Aside0.mk (blk_below (g := gb266) (o := .cells #[.slice Ao47 t263.length co47] 37 (0, 0)) (by (with_reducible repeat (first | refine blk_drewN ?_ _ | refine blk_drew ?_ | refine blk_alloc ?_ _)); refine blk_put (cs := #[.slice none 0 0]) ?_ 0 _ rfl; (with_reducible repeat (first | refine blk_drewN ?_ _ | refine blk_drew ?_ | refine blk_alloc ?_ _)); exact BK266.out) hb); have n7_ := Aside0.mk (below_step z8_15_ hb); clear HO257; clear HO260; clear HO265; clear BK253; clear BK262; clear BK266; clear HB; have HO257 := n0_; have HO260 := n1_; have HO265 := n2_; have HO269 := n3_; have BK253 := n4_; have BK262 := n5_; have BK266 := n6_; have HB := n7_; clear n0_ n1_ n2_ n3_ n4_ n5_ n6_ n7_; (try clear hb); (try clear hb2); (try clear hk); (try clear hi); (try clear ho0)) | ((with_reducible refine gate_dst (N := 7) rfl ?_); refine box_event ?hg (N := 7) ?hd (cs := #[.slice none 0 0]) (t := 37) ?hr ?_; (case hd => rfl); (case hg => rfl); (case hr => first | (go_simp; done) | (go_simp; rfl)); intro gb271 hg w52 hbox hb; have n0_ := Aside0.mk (Kd.R_below z8_7_ hb); have n1_ := Aside0.mk (Kd.R_below z8_9_ hb); have n2_ := Aside0.mk (Kd.R_below z8_12_ hb); have n3_ := Aside0.mk (Kd.R_below z8_13_ hb); have n4_ := Aside0.mk (blk_below (g := gb253) (o := .cells #[.slice A0_0 l0_0.length c0_0] 31 (0, 0)) z8_2_ hb); have n5_ := Aside0.mk (blk_below (g := gb262) (o := .cells #[.slice Ao41 t258.length co41] 37 (0, 0)) z8_5_ hb); have n6_ := Aside0.mk (blk_below (g := gb266) (o := .cells #[.slice Ao47 t263.length co47] 37 (0, 0)) z8_6_ hb); have n7_ := Aside0.mk (below_step z8_15_ hb); have n8_ := Aside0.mk (hbox); have n9_ := Aside0.mk ((by rw [hg]; exact (below_size z8_15_) : w.heap.size ≤ gb271)); have n10_ := Aside0.mk ((by rw [hg]; exact (below_size z8_15_) : w.heap.size ≤ gb271)); have n11_ := Aside0.mk ((by rw [hg]; exact Nat.ne_of_lt (blk_lt (g := gb253) (o := .cells #[.slice A0_0 l0_0.length c0_0] 31 (0, 0)) z8_2_) : gb253 ≠ gb271)); have n12_ := Aside0.mk ((by rw [hg]; exact Nat.ne_of_gt (blk_lt (g := gb253) (o := .cells #[.slice A0_0 l0_0.length c0_0] 31 (0, 0)) z8_2_) : gb271 ≠ gb253)); have n13_ := Aside0.mk ((by rw [hg]; exact Nat.ne_of_lt (blk_lt (g := gb262) (o := .cells #[.slice Ao41 t258.length co41] 37 (0, 0)) z8_5_) : gb262 ≠ gb271)); have n14_ := Aside0.mk ((by rw [hg]; exact Nat.ne_of_gt (blk_lt (g := gb262) (o := .cells #[.slice Ao41 t258.length co41] 37 (0, 0)) z8_5_) : gb271 ≠ gb262)); have n15_ := Aside0.mk ((by rw [hg]; exact Nat.ne_of_lt (blk_lt (g := gb266) (o := .cells #[.slice Ao47 t263.length co47] 37 (0, 0)) z8_6_) : gb266 ≠ gb271)); have n16_ := Aside0.mk ((by rw [hg]; exact Nat.ne_of_gt (blk_lt (g := gb266) (o := .cells #[.slice Ao47 t263.length co47] 37 (0, 0)) z8_6_) : gb271 ≠ gb266)); clear HO257; clear HO260; clear HO265; clear HO269; clear BK253; clear BK262; clear BK266; clear HB; have HO257 := n0_; have HO260 := n1_; have HO265 := n2_; have HO269 := n3_; have BK253 := n4_; have BK262 := n5_; have BK266 := n6_; have HB := n7_; have BK271 := n8_; have GW271 := n9_; have GE271 := n10_; have NB253_271 := n11_; have NB271_253 := n12_; have NB262_271 := n13_; have NB271_262 := n14_; have NB266_271 := n15_; have NB271_266 := n16_; clear n0_ n1_ n2_ n3_ n4_ n5_ n6_ n7_ n8_ n9_ n10_ n11_ n12_ n13_ n14_ n15_ n16_; clear hb hbox hg; obtain ⟨Ao53, co53, eo53⟩ := Kd.R_slice HO269.out; subst eo53; have hnb54 := NB271_253.out; have hnc54 := NB253_271.out; have hnb55 := NB271_262.out; have hnc55 := NB262_271.out; have hnb56 := NB271_266.out; have hnc56 := NB266_271.out; have hcz57_0 : w52.cell? ⟨gb271, 0, none⟩ = some (.slice none 0 0) := (blk_cell BK271.out 0).trans rfl; have hfz57_0 := blk_frozen BK271.out 0; have hcz58_0 : w52.cell? ⟨gb262, 0, none⟩ = some (.slice Ao41 t258.length co41) := (blk_cell BK262.out 0).trans rfl; have hfz58_0 := blk_frozen BK262.out 0) | ((with_reducible refine gate_callee (f := 22) rfl ?_); refine goesL_ (some 34) rfl rfl Tryd.func22 (by kernel_rfl) rfl #[.agg #[.slice Ao53 t267.length co53], .agg #[.slice Ao41 t258.length co41]] rfl z8_1_ ?_; (with_reducible refine (laws_eqPuzzle.calls k _ _ t267 _ _ t258 true _ ?side1 ?side2 ?side3 ?side4 A11.out).mono ?_); (case side1 => refine (Kd.R_reads' (e := 26) (base := w.heap.size) (ok := fun k_ => (((True ∧ some k_ ≠ (.slice Ao38 t255.length co38 : Value).ownBlock) ∧ some k_ ≠ (.slice Ao41 t258.length co41 : Value).ownBlock) ∧ some k_ ≠ (.slice Ao47 t263.length co47 : Value).ownBlock)) (n := t267.length) (c := co53) ?_).2.2; exact (by (with_reducible repeat (first | apply Kd.R_alloc | apply Kd.R_drewN | apply Kd.R_drew)); exact (Kd.R_mono (Kd.R_far (p := ⟨gb271, 0, none⟩) (Kd.R_types HO269.out BK271.out (by decide)) (fun _ hk => hk.2) (.slice Ao53 t267.length co53)) (fun _ h_ => h_.1)))); (case side2 => exact (Kd.R_reads' HO269.out).2.1); (case side3 => refine (Kd.R_reads' (e := 26) (base := w.heap.size) (ok := fun k_ => (((True ∧ some k_ ≠ (.slice Ao38 t255.length co38 : Value).ownBlock) ∧ some k_ ≠ (.slice Ao47 t263.length co47 : Value).ownBlock) ∧ some k_ ≠ (.slice Ao53 t267.length co53 : Value).ownBlock)) (n := t258.length) (c := co41) ?_).2.2; exact (by (with_reducible repeat (first | apply Kd.R_alloc | apply Kd.R_drewN | apply Kd.R_drew)); exact (Kd.R_mono (Kd.R_far (p := ⟨gb271, 0, none⟩) (Kd.R_types HO260.out BK271.out (by decide)) (fun _ hk => hk.2) (.slice Ao53 t267.length co53)) (fun _ h_ => h_.1)))); (case side4 => exact (Kd.R_reads' HO260.out).2.1); rintro e w59 ⟨rfl, hb⟩; refine ⟨_, rfl, ?_⟩; have n0_ := Aside0.mk (Kd.R_below (by (with_reducible repeat (first | apply Kd.R_alloc | apply Kd.R_drewN | apply Kd.R_drew)); exact (Kd.R_mono (Kd.R_far (p := ⟨gb271, 0, none⟩) (Kd.R_types HO257.out BK271.out (by decide)) (fun _ hk => hk.2) (.slice Ao53 t267.length co53)) (fun _ h_ => h_.1))) hb); have n1_ := Aside0.mk (Kd.R_below (by (with_reducible repeat (first | apply Kd.R_alloc | apply Kd.R_drewN | apply Kd.R_drew)); exact (Kd.R_mono (Kd.R_far (p := ⟨gb271, 0, none⟩) (Kd.R_types HO260.out BK271.out (by decide)) (fun _ hk => hk.2) (.slice Ao53 t267.length co53)) (fun _ h_ => h_.1))) hb); have n2_ := Aside0.mk (Kd.R_below (by (with_reducible repeat (first | apply Kd.R_alloc | apply Kd.R_drewN | apply Kd.R_drew)); exact (Kd.R_mono (Kd.R_far (p := ⟨gb271, 0, none⟩) (Kd.R_types HO265.out BK271.out (by decide)) (fun _ hk => hk.2) (.slice Ao53 t267.length co53)) (fun _ h_ => h_.1))) hb); have n3_ := Aside0.mk (Kd.R_below (by (with_reducible repeat (first | apply Kd.R_alloc | apply Kd.R_drewN | apply Kd.R_drew)); exact (Kd.R_mono (Kd.R_far (p := ⟨gb271, 0, none⟩) (Kd.R_types HO269.out BK271.out (by decide)) (fun _ hk => hk.2) (.slice Ao53 t267.length co53)) (fun _ h_ => h_.1))) hb); have n4_ := Aside0.mk (blk_below (g := gb253) (o := .cells #[.slice A0_0 l0_0.length c0_0] 31 (0, 0)) (by (with_reducible repeat (first | refine blk_drewN ?_ _ | refine blk_drew ?_ | refine blk_alloc ?_ _)); refine blk_far ?_ NB253_271.out _; (with_reducible repeat (first | refine blk_drewN ?_ _ | refine blk_drew ?_ | refine blk_alloc ?_ _)); exact BK253.out) hb); have n5_ := Aside0.mk (blk_below (g := gb262) (o := .cells #[.slice Ao41 t258.length co41] 37 (0, 0)) (by (with_reducible repeat (first | refine blk_drewN ?_ _ | refine blk_drew ?_ | refine blk_alloc ?_ _)); refine blk_far ?_ NB262_271.out _; (with_reducible repeat (first | refine blk_drewN ?_ _ | refine blk_drew ?_ | refine blk_alloc ?_ _)); exact BK262.out) hb); have n6_ := Aside0.mk (blk_below (g := gb266) (o := .cells #[.slice Ao47 t263.length co47] 37 (0, 0)) (by (with_reducible repeat (first | refine blk_drewN ?_ _ | refine blk_drew ?_ | refine blk_alloc ?_ _)); refine blk_far ?_ NB266_271.out _; (with_reducible repeat (first | refine blk_drewN ?_ _ | refine blk_drew ?_ | refine blk_alloc ?_ _)); exact BK266.out) hb); have n7_ := Aside0.mk (blk_below (g := gb271) (o := .cells #[.slice Ao53 t267.length co53] 37 (0, 0)) (by (with_reducible repeat (first | refine blk_drewN ?_ _ | refine blk_drew ?_ | refine blk_alloc ?_ _)); refine blk_put (cs := #[.slice none 0 0]) ?_ 0 _ rfl; (with_reducible repeat (first | refine blk_drewN ?_ _ | refine blk_drew ?_ | refine blk_alloc ?_ _)); exact BK271.out) hb); have n8_ := Aside0.mk (below_step z8_0_ hb); clear HO257; clear HO260; clear HO265; clear HO269; clear BK253; clear BK262; clear BK266; clear BK271; clear HB; have HO257 := n0_; have HO260 := n1_; have HO265 := n2_; have HO269 := n3_; have BK253 := n4_; have BK262 := n5_; have BK266 := n6_; have BK271 := n7_; have HB := n8_; clear n0_ n1_ n2_ n3_ n4_ n5_ n6_ n7_ n8_; (try clear hb); (try clear hb2); (try clear hk); (try clear hi)))
         have n0_ := Aside0.mk (Kd.R_drew HO257.out)
         have n1_ := Aside0.mk (Kd.R_drew HO260.out)
         have n2_ := Aside0.mk (Kd.R_drew HO265.out)
         have n3_ := Aside0.mk (Kd.R_drew HO269.out)
         have n4_ := Aside0.mk (blk_drew BK253.out)
         have n5_ := Aside0.mk (blk_drew BK262.out)
         have n6_ := Aside0.mk (blk_drew BK266.out)
         have n7_ := Aside0.mk (blk_drew BK271.out)
         have n8_ := Aside0.mk (below_drew1 HB.out)
         clear HO257
         clear HO260
         clear HO265
         clear HO269
         clear BK253
         clear BK262
         clear BK266
         clear BK271
         clear HB
         have HO257 := n0_
         have HO260 := n1_
         have HO265 := n2_
         have HO269 := n3_
         have BK253 := n4_
         have BK262 := n5_
         have BK266 := n6_
         have BK271 := n7_
         have HB := n8_
         clear n0_ n1_ n2_ n3_ n4_ n5_ n6_ n7_ n8_
         refine start_ (n := 5) (S := fun w' => w'.cell? ⟨gb266, 0, none⟩ = some (.slice Ao47 t263.length co47) ∧ w'.cell? ⟨gb253, 0, none⟩ = some (.slice A0_0 l0_0.length c0_0)) (ds := []) #[false, false, false, false, false] (by kernel_rfl) rfl rfl ⟨(blk_cell BK266.out 0).trans rfl, (blk_cell BK253.out 0).trans rfl⟩ (fun hHeld => ?_)
         generalize w59.drew = w60 at HO257 HO260 HO265 HO269 BK253 BK262 BK266 BK271 HB hHeld ⊢
         refine take_ (i := 0) (N := some 41) (v := ?_) (a' := ?_) #[true, false, false, false, false] rfl rfl (by kernel_rfl) (fun _ _ _ h => h) (Or.inl ⟨by rfl, ?_⟩) hHeld ?_ ?_
         rotate_left
         · rintro w' ⟨s0, s1⟩
           go_simp
           with_reducible rfl
         rotate_left
         · simp only [Act.put, List.setIfInBounds_toArray, List.set_cons_zero, List.set_cons_succ, i64_w, i32_w]
           rfl
         refine take_ (i := 1) (N := some 42) (v := ?_) (a' := ?_) #[true, true, false, false, false] rfl rfl (by kernel_rfl) (fun _ _ _ h => h) (Or.inl ⟨by rfl, ?_⟩) hHeld ?_ ?_
         rotate_left
         · rintro w' ⟨s0, s1⟩
           go_simp
           with_reducible rfl
         rotate_left
         · simp only [Act.put, List.setIfInBounds_toArray, List.set_cons_zero, List.set_cons_succ, i64_w, i32_w]
           rfl
         refine one_ (i := 2) (N := some 43) #[true, true, true, false, false] rfl rfl (by kernel_rfl) (by decide) (fun K hK => ?_)
         refine goes_ Tryd.func20 (by kernel_rfl) rfl #[.agg #[.slice A0_0 l0_0.length c0_0]] (by rfl) rfl rfl z8_1_ ?_
         with_reducible refine (laws_toPuzzle.calls k _ _ l0_0 t274 _ ?side1 ?side2 A14.out).mono ?_
         (case side1 => repeat (first | exact (Kd.C_below HR0_0.out HB.out) | (with_reducible refine Kd.C_alloc ?_ _) | (with_reducible refine Kd.C_drewN ?_ _) | (with_reducible refine Kd.C_drew ?_)))
         (case side2 => exact HC0_0.out)
         rintro e w61 ⟨v275, rfl, ho0, hb⟩
         refine ⟨_, rfl, ?_⟩
         have n0_ := Aside0.mk (Kd.R_elder' z8_7_ (Kd.R_base ho0) hb)
         have n1_ := Aside0.mk (Kd.R_elder' z8_9_ (Kd.R_base ho0) hb)
         have n2_ := Aside0.mk (Kd.R_elder' z8_12_ (Kd.R_base ho0) hb)
         have n3_ := Aside0.mk (Kd.R_elder' z8_13_ (Kd.R_base ho0) hb)
         have n4_ := Aside0.mk (Kd.R_lower (Kd.R_new' (Kd.R_new' (Kd.R_new' (Kd.R_new' ho0 (Kd.R_lt z8_7_)) (Kd.R_lt z8_9_)) (Kd.R_lt z8_12_)) (Kd.R_lt z8_13_)) (below_size z8_0_))
         have n5_ := Aside0.mk (blk_below (g := gb253) (o := .cells #[.slice A0_0 l0_0.length c0_0] 31 (0, 0)) z8_2_ hb)
         have n6_ := Aside0.mk (blk_below (g := gb262) (o := .cells #[.slice Ao41 t258.length co41] 37 (0, 0)) z8_5_ hb)
         have n7_ := Aside0.mk (blk_below (g := gb266) (o := .cells #[.slice Ao47 t263.length co47] 37 (0, 0)) z8_6_ hb)
         have n8_ := Aside0.mk (blk_below (g := gb271) (o := .cells #[.slice Ao53 t267.length co53] 37 (0, 0)) z8_11_ hb)
         have n9_ := Aside0.mk (below_step z8_0_ hb)
         clear HO257
         clear HO260
         clear HO265
         clear HO269
         clear BK253
         clear BK262
         clear BK266
         clear BK271
         clear HB
         have HO257 := n0_
         have HO260 := n1_
         have HO265 := n2_
         have HO269 := n3_
         have HO276 := n4_
         have BK253 := n5_
         have BK262 := n6_
         have BK266 := n7_
         have BK271 := n8_
         have HB := n9_
         clear n0_ n1_ n2_ n3_ n4_ n5_ n6_ n7_ n8_ n9_
         (try clear hb)
         (try clear hb2)
         (try clear hk)
         (try clear hi)
         (try clear ho0)
         obtain ⟨Ao62, co62, eo62⟩ := Kd.R_slice HO276.out
         (first | subst eo62 | (injection eo62 with f1_ f2_ f3_; have f4_ := f1_.symm; have f5_ := f3_.symm; clear f1_ f2_ f3_; subst f4_; subst f5_))
         refine hK.out _ _ ⟨(blk_cell BK266.out 0).trans rfl, (blk_cell BK253.out 0).trans rfl⟩ (fun hHeld => ?_)
         clear hK K
         refine norm_ (a' := ?_) ?_ ?_
         rotate_left
         · show Act.put _ (some 43) _ = _
           simp only [Act.put, List.setIfInBounds_toArray, List.set_cons_zero, List.set_cons_succ, i64_w, i32_w]
           rfl
         refine one_ (i := 3) (N := some 44) #[true, true, true, true, false] rfl rfl (by kernel_rfl) (by decide) (fun K hK => ?_)
         refine goes_ Tryd.func22 (by kernel_rfl) rfl #[.agg #[.slice Ao47 t263.length co47], .agg #[.slice Ao62 t274.length co62]] (by rfl) rfl rfl z8_1_ ?_
         with_reducible refine (laws_eqPuzzle.calls k _ _ t263 _ _ t274 true _ ?side1 ?side2 ?side3 ?side4 A15.out).mono ?_
         (case side1 => repeat (first | exact (Kd.R_reads' HO265.out).2.2 | (with_reducible refine Kd.C_alloc ?_ _) | (with_reducible refine Kd.C_drewN ?_ _) | (with_reducible refine Kd.C_drew ?_)))
         (case side2 => exact (Kd.R_reads' HO265.out).2.1)
         (case side3 => repeat (first | exact (Kd.R_reads' HO276.out).2.2 | (with_reducible refine Kd.C_alloc ?_ _) | (with_reducible refine Kd.C_drewN ?_ _) | (with_reducible refine Kd.C_drew ?_)))
         (case side4 => exact (Kd.R_reads' HO276.out).2.1)
         rintro e w63 ⟨rfl, hb⟩
         refine ⟨_, rfl, ?_⟩
         have n0_ := Aside0.mk (Kd.R_below z8_7_ hb)
         have n1_ := Aside0.mk (Kd.R_below z8_9_ hb)
         have n2_ := Aside0.mk (Kd.R_below z8_12_ hb)
         have n3_ := Aside0.mk (Kd.R_below z8_13_ hb)
         have n4_ := Aside0.mk (Kd.R_below z8_17_ hb)
         have n5_ := Aside0.mk (blk_below (g := gb253) (o := .cells #[.slice A0_0 l0_0.length c0_0] 31 (0, 0)) z8_2_ hb)
         have n6_ := Aside0.mk (blk_below (g := gb262) (o := .cells #[.slice Ao41 t258.length co41] 37 (0, 0)) z8_5_ hb)
         have n7_ := Aside0.mk (blk_below (g := gb266) (o := .cells #[.slice Ao47 t263.length co47] 37 (0, 0)) z8_6_ hb)
         have n8_ := Aside0.mk (blk_below (g := gb271) (o := .cells #[.slice Ao53 t267.length co53] 37 (0, 0)) z8_11_ hb)
         have n9_ := Aside0.mk (below_step z8_0_ hb)
         clear HO257
         clear HO260
         clear HO265
         clear HO269
         clear HO276
         clear BK253
         clear BK262
         clear BK266
         clear BK271
         clear HB
         have HO257 := n0_
         have HO260 := n1_
         have HO265 := n2_
         have HO269 := n3_
         have HO276 := n4_
         have BK253 := n5_
         have BK262 := n6_
         have BK266 := n7_
         have BK271 := n8_
         have HB := n9_
         clear n0_ n1_ n2_ n3_ n4_ n5_ n6_ n7_ n8_ n9_
         (try clear hb)
         (try clear hb2)
         (try clear hk)
         (try clear hi)
         refine hK.out _ _ ⟨(blk_cell BK266.out 0).trans rfl, (blk_cell BK253.out 0).trans rfl⟩ (fun hHeld => ?_)
         clear hK K
         refine norm_ (a' := ?_) ?_ ?_
         rotate_left
         · show Act.put _ (some 44) _ = _
           simp only [Act.put, List.setIfInBounds_toArray, List.set_cons_zero, List.set_cons_succ, i64_w, i32_w]
           rfl
         refine pure_ (i := 4) (N := some 45) (v := ?_) (a' := ?_) #[true, true, true, true, true] rfl rfl (by kernel_rfl) (fun _ _ _ h => h) (Or.inl ⟨by rfl, ?_⟩) ?_ ?_
         rotate_left
         · intro w'
           go_simp
           with_reducible rfl
         rotate_left
         · simp only [Act.put, List.setIfInBounds_toArray, List.set_cons_zero, List.set_cons_succ, i64_w, i32_w]
           rfl
         refine done_ (by kernel_rfl) ?_
         have hcz64_0 : w63.cell? ⟨gb266, 0, none⟩ = some (.slice Ao47 t263.length co47) := (blk_cell BK266.out 0).trans rfl
         have hfz64_0 := blk_frozen BK266.out 0
         try go_wp2_with (first | ((with_reducible refine gate_callee (f := 27) rfl ?_); refine goesL_ (some 48) rfl rfl Tryd.func27 (by kernel_rfl) rfl #[.agg #[.slice Ao47 t263.length co47], .int .i64 1] rfl z8_1_ ?_; (with_reducible refine (laws_markPuzzle.calls k (fun k_ => some k_ = (.slice Ao47 t263.length co47 : Value).ownBlock) (.slice Ao47 t263.length co47) t263 1 t278 t279 w _ ?side1 ?side2 A17.out).mono ?_); (case side1 => repeat (first | (with_reducible first | exact HB.out | apply below_alloc | apply pw_below_drewN | apply below_drew1 | refine below_set ?_ GE253.out | refine below_set ?_ GE262.out | refine below_set ?_ GE266.out | refine below_set ?_ GE271.out) | exact HB.out)); (case side2 => exact Kd.R_tight rfl HO265.out); rintro e w65 ⟨rfl, hy0, hb, hkp⟩; refine ⟨_, rfl, ?_⟩; have n0_ := Aside0.mk (blk_kept z8_2_ hkp (fun hs_ => (fun e_ => (Kd.R_ne HO265.out BK253.out (by decide)) e_) hs_)); have n1_ := Aside0.mk (Kd.R_mono (ok' := fun k_ => some k_ ≠ (.slice Ao41 t258.length co41 : Value).ownBlock ∧ some k_ ≠ (.slice Ao47 t263.length co47 : Value).ownBlock ∧ some k_ ≠ (.slice Ao53 t267.length co53 : Value).ownBlock ∧ some k_ ≠ (.slice Ao62 t274.length co62 : Value).ownBlock) (Kd.R_keptB (HO257.out) hkp (fun k_ hk_ hs_ => (hk_.1.1.2) hs_)) (fun k_ hk_ => ⟨hk_.1.1.1.1.2, hk_.1.1.1.2, hk_.1.1.2, hk_.1.2⟩)); have n2_ := Aside0.mk (Kd.R_mono (ok' := fun k_ => some k_ ≠ (.slice Ao38 t255.length co38 : Value).ownBlock ∧ some k_ ≠ (.slice Ao47 t263.length co47 : Value).ownBlock ∧ some k_ ≠ (.slice Ao53 t267.length co53 : Value).ownBlock ∧ some k_ ≠ (.slice Ao62 t274.length co62 : Value).ownBlock) (Kd.R_keptB (HO260.out) hkp (fun k_ hk_ hs_ => (hk_.1.1.2) hs_)) (fun k_ hk_ => ⟨hk_.1.1.1.1.2, hk_.1.1.1.2, hk_.1.1.2, hk_.1.2⟩)); have n3_ := Aside0.mk (blk_kept z8_5_ hkp (fun hs_ => (fun e_ => (Kd.R_ne HO265.out BK262.out (by decide)) e_) hs_)); have n4_ := Aside0.mk (Kd.R_reok rfl hy0 (fun k_ e_ => HO265.out.1 k_ e_)); have n5_ := Aside0.mk (blk_kept z8_6_ hkp (fun hs_ => (fun e_ => (Kd.R_ne HO265.out BK266.out (by decide)) e_) hs_)); have n6_ := Aside0.mk (Kd.R_mono (ok' := fun k_ => some k_ ≠ (.slice Ao38 t255.length co38 : Value).ownBlock ∧ some k_ ≠ (.slice Ao41 t258.length co41 : Value).ownBlock ∧ some k_ ≠ (.slice Ao47 t263.length co47 : Value).ownBlock ∧ some k_ ≠ (.slice Ao62 t274.length co62 : Value).ownBlock) (Kd.R_keptB (HO269.out) hkp (fun k_ hk_ hs_ => (hk_.1.2) hs_)) (fun k_ hk_ => ⟨hk_.1.1.1.1.2, hk_.1.1.1.2, hk_.1.1.2, hk_.1.2⟩)); have n7_ := Aside0.mk (blk_kept z8_11_ hkp (fun hs_ => (fun e_ => (Kd.R_ne HO265.out BK271.out (by decide)) e_) hs_)); have n8_ := Aside0.mk (Kd.R_mono (ok' := fun k_ => some k_ ≠ (.slice Ao38 t255.length co38 : Value).ownBlock ∧ some k_ ≠ (.slice Ao41 t258.length co41 : Value).ownBlock ∧ some k_ ≠ (.slice Ao47 t263.length co47 : Value).ownBlock ∧ some k_ ≠ (.slice Ao53 t267.length co53 : Value).ownBlock) (Kd.R_keptB (HO276.out) hkp (fun k_ hk_ hs_ => (hk_.1.2) hs_)) (fun k_ hk_ => ⟨hk_.1.1.1.1.2, hk_.1.1.1.2, hk_.1.1.2, hk_.1.2⟩)); have n9_ := Aside0.mk (hb); clear BK253; clear HO257; clear HO260; clear BK262; clear HO265; clear BK266; clear HO269; clear BK271; clear HO276; clear HB; have BK253 := n0_; have HO257 := n1_; have HO260 := n2_; have BK262 := n3_; have HO265 := n4_; have BK266 := n5_; have HO269 := n6_; have BK271 := n7_; have HO276 := n8_; have HB := n9_; clear n0_ n1_ n2_ n3_ n4_ n5_ n6_ n7_ n8_ n9_; (try clear hb); (try clear hkp); (try clear hy0); have hcz66_0 : w65.cell? ⟨gb271, 0, none⟩ = some (.slice Ao53 t267.length co53) := (blk_cell BK271.out 0).trans rfl; have hfz66_0 := blk_frozen BK271.out 0; have hcz67_0 : w65.cell? ⟨gb262, 0, none⟩ = some (.slice Ao41 t258.length co41) := (blk_cell BK262.out 0).trans rfl; have hfz67_0 := blk_frozen BK262.out 0) | (go_at_call 22; (with_reducible refine (laws_eqPuzzle.calls k _ _ t267 _ _ t258 true _ ?side1 ?side2 ?side3 ?side4 A19.out).mono ?_); (case side1 => repeat (first | exact (Kd.R_reads' HO269.out).2.2 | (with_reducible refine Kd.C_alloc ?_ _) | (with_reducible refine Kd.C_drewN ?_ _) | (with_reducible refine Kd.C_drew ?_))); (case side2 => exact (Kd.R_reads' HO269.out).2.1); (case side3 => repeat (first | exact (Kd.R_reads' HO260.out).2.2 | (with_reducible refine Kd.C_alloc ?_ _) | (with_reducible refine Kd.C_drewN ?_ _) | (with_reducible refine Kd.C_drew ?_))); (case side4 => exact (Kd.R_reads' HO260.out).2.1); rintro e w68 ⟨rfl, hb⟩; have n0_ := Aside0.mk (Kd.R_below z8_7_ hb); have n1_ := Aside0.mk (Kd.R_below z8_9_ hb); have n2_ := Aside0.mk (Kd.R_below z8_12_ hb); have n3_ := Aside0.mk (Kd.R_below z8_13_ hb); have n4_ := Aside0.mk (Kd.R_below z8_17_ hb); have n5_ := Aside0.mk (blk_below (g := gb253) (o := .cells #[.slice A0_0 l0_0.length c0_0] 31 (0, 0)) z8_2_ hb); have n6_ := Aside0.mk (blk_below (g := gb262) (o := .cells #[.slice Ao41 t258.length co41] 37 (0, 0)) z8_5_ hb); have n7_ := Aside0.mk (blk_below (g := gb266) (o := .cells #[.slice Ao47 t263.length co47] 37 (0, 0)) z8_6_ hb); have n8_ := Aside0.mk (blk_below (g := gb271) (o := .cells #[.slice Ao53 t267.length co53] 37 (0, 0)) z8_11_ hb); have n9_ := Aside0.mk (below_step z8_0_ hb); clear HO257; clear HO260; clear HO265; clear HO269; clear HO276; clear BK253; clear BK262; clear BK266; clear BK271; clear HB; have HO257 := n0_; have HO260 := n1_; have HO265 := n2_; have HO269 := n3_; have HO276 := n4_; have BK253 := n5_; have BK262 := n6_; have BK266 := n7_; have BK271 := n8_; have HB := n9_; clear n0_ n1_ n2_ n3_ n4_ n5_ n6_ n7_ n8_ n9_; (try clear hb); (try clear hb2); (try clear hk); (try clear hi); have hcz69_0 : w68.cell? ⟨gb271, 0, none⟩ = some (.slice Ao53 t267.length co53) := (blk_cell BK271.out 0).trans rfl; have hfz69_0 := blk_frozen BK271.out 0) | ((with_reducible refine gate_callee (f := 27) rfl ?_); refine goesL_ (some 64) rfl rfl Tryd.func27 (by kernel_rfl) rfl #[.agg #[.slice Ao53 t267.length co53], .int .i64 1] rfl z8_1_ ?_; (with_reducible refine (laws_markPuzzle.calls k (fun k_ => some k_ = (.slice Ao53 t267.length co53 : Value).ownBlock) (.slice Ao53 t267.length co53) t267 1 t282 t283 w _ ?side1 ?side2 A21.out).mono ?_); (case side1 => repeat (first | (with_reducible first | exact HB.out | apply below_alloc | apply pw_below_drewN | apply below_drew1 | refine below_set ?_ GE253.out | refine below_set ?_ GE262.out | refine below_set ?_ GE266.out | refine below_set ?_ GE271.out) | exact HB.out)); (case side2 => exact Kd.R_tight rfl HO269.out); rintro e w70 ⟨rfl, hy0, hb, hkp⟩; refine ⟨_, rfl, ?_⟩; have n0_ := Aside0.mk (blk_kept z8_2_ hkp (fun hs_ => (fun e_ => (Kd.R_ne HO269.out BK253.out (by decide)) e_) hs_)); have n1_ := Aside0.mk (Kd.R_mono (ok' := fun k_ => some k_ ≠ (.slice Ao41 t258.length co41 : Value).ownBlock ∧ some k_ ≠ (.slice Ao47 t263.length co47 : Value).ownBlock ∧ some k_ ≠ (.slice Ao53 t267.length co53 : Value).ownBlock ∧ some k_ ≠ (.slice Ao62 t274.length co62 : Value).ownBlock) (Kd.R_keptB (HO257.out) hkp (fun k_ hk_ hs_ => (hk_.2.2.1) hs_)) (fun k_ hk_ => ⟨hk_.1.1, hk_.1.2.1, hk_.1.2.2.1, hk_.1.2.2.2⟩)); have n2_ := Aside0.mk (Kd.R_mono (ok' := fun k_ => some k_ ≠ (.slice Ao38 t255.length co38 : Value).ownBlock ∧ some k_ ≠ (.slice Ao47 t263.length co47 : Value).ownBlock ∧ some k_ ≠ (.slice Ao53 t267.length co53 : Value).ownBlock ∧ some k_ ≠ (.slice Ao62 t274.length co62 : Value).ownBlock) (Kd.R_keptB (HO260.out) hkp (fun k_ hk_ hs_ => (hk_.2.2.1) hs_)) (fun k_ hk_ => ⟨hk_.1.1, hk_.1.2.1, hk_.1.2.2.1, hk_.1.2.2.2⟩)); have n3_ := Aside0.mk (blk_kept z8_5_ hkp (fun hs_ => (fun e_ => (Kd.R_ne HO269.out BK262.out (by decide)) e_) hs_)); have n4_ := Aside0.mk (Kd.R_mono (ok' := fun k_ => some k_ ≠ (.slice Ao38 t255.length co38 : Value).ownBlock ∧ some k_ ≠ (.slice Ao41 t258.length co41 : Value).ownBlock ∧ some k_ ≠ (.slice Ao53 t267.length co53 : Value).ownBlock ∧ some k_ ≠ (.slice Ao62 t274.length co62 : Value).ownBlock) (Kd.R_keptB (HO265.out) hkp (fun k_ hk_ hs_ => (hk_.1.2) hs_)) (fun k_ hk_ => ⟨hk_.1.1.1.1.2, hk_.1.1.1.2, hk_.1.1.2, hk_.1.2⟩)); have n5_ := Aside0.mk (blk_kept z8_6_ hkp (fun hs_ => (fun e_ => (Kd.R_ne HO269.out BK266.out (by decide)) e_) hs_)); have n6_ := Aside0.mk (Kd.R_reok rfl hy0 (fun k_ e_ => HO269.out.1 k_ e_)); have n7_ := Aside0.mk (blk_kept z8_11_ hkp (fun hs_ => (fun e_ => (Kd.R_ne HO269.out BK271.out (by decide)) e_) hs_)); have n8_ := Aside0.mk (Kd.R_mono (ok' := fun k_ => some k_ ≠ (.slice Ao38 t255.length co38 : Value).ownBlock ∧ some k_ ≠ (.slice Ao41 t258.length co41 : Value).ownBlock ∧ some k_ ≠ (.slice Ao47 t263.length co47 : Value).ownBlock ∧ some k_ ≠ (.slice Ao53 t267.length co53 : Value).ownBlock) (Kd.R_keptB (HO276.out) hkp (fun k_ hk_ hs_ => (hk_.2.2.2) hs_)) (fun k_ hk_ => ⟨hk_.1.1, hk_.1.2.1, hk_.1.2.2.1, hk_.1.2.2.2⟩)); have n9_ := Aside0.mk (hb); clear BK253; clear HO257; clear HO260; clear BK262; clear HO265; clear BK266; clear HO269; clear BK271; clear HO276; clear HB; have BK253 := n0_; have HO257 := n1_; have HO260 := n2_; have BK262 := n3_; have HO265 := n4_; have BK266 := n5_; have HO269 := n6_; have BK271 := n7_; have HO276 := n8_; have HB := n9_; clear n0_ n1_ n2_ n3_ n4_ n5_ n6_ n7_ n8_ n9_; (try clear hb); (try clear hkp); (try clear hy0); have hcz71_0 : w70.cell? ⟨gb271, 0, none⟩ = some (.slice Ao53 t267.length co53) := (blk_cell BK271.out 0).trans rfl; have hfz71_0 := blk_frozen BK271.out 0) | ((with_reducible refine gate_callee (f := 28) rfl ?_); refine goesL_ (some 67) rfl rfl Tryd.func28 (by kernel_rfl) rfl #[.agg #[.slice Ao53 t283.length co53], .int .i64 1] rfl z8_22_ ?_; (with_reducible refine (laws_heldPuzzle.calls k _ _ t283 1 t284 _ ?side1 ?side2 A22.out).mono ?_); (case side1 => repeat (first | exact (Kd.R_reads' HO269.out).2.2 | (with_reducible refine Kd.C_alloc ?_ _) | (with_reducible refine Kd.C_drewN ?_ _) | (with_reducible refine Kd.C_drew ?_))); (case side2 => rw [show t283.length = t267.length from (Kd.R_reads' HO269.out).1.symm]; exact (Kd.R_reads' HO269.out).2.1); rintro e w72 ⟨rfl, hb⟩; refine ⟨_, rfl, ?_⟩; have n0_ := Aside0.mk (Kd.R_below z8_7_ hb); have n1_ := Aside0.mk (Kd.R_below z8_9_ hb); have n2_ := Aside0.mk (Kd.R_below z8_12_ hb); have n3_ := Aside0.mk (Kd.R_below z8_13_ hb); have n4_ := Aside0.mk (Kd.R_below z8_17_ hb); have n5_ := Aside0.mk (blk_below (g := gb253) (o := .cells #[.slice A0_0 l0_0.length c0_0] 31 (0, 0)) z8_2_ hb); have n6_ := Aside0.mk (blk_below (g := gb262) (o := .cells #[.slice Ao41 t258.length co41] 37 (0, 0)) z8_5_ hb); have n7_ := Aside0.mk (blk_below (g := gb266) (o := .cells #[.slice Ao47 t263.length co47] 37 (0, 0)) z8_6_ hb); have n8_ := Aside0.mk (blk_below (g := gb271) (o := .cells #[.slice Ao53 t267.length co53] 37 (0, 0)) z8_11_ hb); have n9_ := Aside0.mk (below_step z8_0_ hb); clear HO257; clear HO260; clear HO265; clear HO269; clear HO276; clear BK253; clear BK262; clear BK266; clear BK271; clear HB; have HO257 := n0_; have HO260 := n1_; have HO265 := n2_; have HO269 := n3_; have HO276 := n4_; have BK253 := n5_; have BK262 := n6_; have BK266 := n7_; have BK271 := n8_; have HB := n9_; clear n0_ n1_ n2_ n3_ n4_ n5_ n6_ n7_ n8_ n9_; (try clear hb); (try clear hb2); (try clear hk); (try clear hi); have hcz73_0 : w72.cell? ⟨gb253, 0, none⟩ = some (.slice A0_0 l0_0.length c0_0) := (blk_cell BK253.out 0).trans rfl; have hfz73_0 := blk_frozen BK253.out 0) | ((with_reducible refine gate_callee (f := 20) rfl ?_); refine goesL_ (some 75) rfl rfl Tryd.func20 (by kernel_rfl) rfl #[.agg #[.slice A0_0 l0_0.length c0_0]] rfl z8_1_ ?_; (with_reducible refine (laws_toPuzzle.calls k _ _ l0_0 t285 _ ?side1 ?side2 A25.out).mono ?_); (case side1 => repeat (first | exact (Kd.C_below HR0_0.out HB.out) | (with_reducible refine Kd.C_alloc ?_ _) | (with_reducible refine Kd.C_drewN ?_ _) | (with_reducible refine Kd.C_drew ?_))); (case side2 => exact HC0_0.out); rintro e w74 ⟨v286, rfl, ho0, hb⟩; refine ⟨_, rfl, ?_⟩; have n0_ := Aside0.mk (Kd.R_elder' z8_7_ (Kd.R_base ho0) hb); have n1_ := Aside0.mk (Kd.R_elder' z8_9_ (Kd.R_base ho0) hb); have n2_ := Aside0.mk (Kd.R_elder' z8_12_ (Kd.R_base ho0) hb); have n3_ := Aside0.mk (Kd.R_elder' z8_13_ (Kd.R_base ho0) hb); have n4_ := Aside0.mk (Kd.R_elder' z8_17_ (Kd.R_base ho0) hb); have n5_ := Aside0.mk (Kd.R_lower (Kd.R_new' (Kd.R_new' (Kd.R_new' (Kd.R_new' (Kd.R_new' ho0 (Kd.R_lt z8_7_)) (Kd.R_lt z8_9_)) (Kd.R_lt z8_12_)) (Kd.R_lt z8_13_)) (Kd.R_lt z8_17_)) (below_size z8_0_)); have n6_ := Aside0.mk (blk_below (g := gb253) (o := .cells #[.slice A0_0 l0_0.length c0_0] 31 (0, 0)) z8_2_ hb); have n7_ := Aside0.mk (blk_below (g := gb262) (o := .cells #[.slice Ao41 t258.length co41] 37 (0, 0)) z8_5_ hb); have n8_ := Aside0.mk (blk_below (g := gb266) (o := .cells #[.slice Ao47 t263.length co47] 37 (0, 0)) z8_6_ hb); have n9_ := Aside0.mk (blk_below (g := gb271) (o := .cells #[.slice Ao53 t267.length co53] 37 (0, 0)) z8_11_ hb); have n10_ := Aside0.mk (below_step z8_0_ hb); clear HO257; clear HO260; clear HO265; clear HO269; clear HO276; clear BK253; clear BK262; clear BK266; clear BK271; clear HB; have HO257 := n0_; have HO260 := n1_; have HO265 := n2_; have HO269 := n3_; have HO276 := n4_; have HO287 := n5_; have BK253 := n6_; have BK262 := n7_; have BK266 := n8_; have BK271 := n9_; have HB := n10_; clear n0_ n1_ n2_ n3_ n4_ n5_ n6_ n7_ n8_ n9_ n10_; (try clear hb); (try clear hb2); (try clear hk); (try clear hi); (try clear ho0); obtain ⟨Ao75, co75, eo75⟩ := Kd.R_slice HO287.out; subst eo75) | ((with_reducible refine gate_callee (f := 48) rfl ?_); refine goesL_ (some 76) rfl rfl Tryd.func48 (by kernel_rfl) rfl #[.agg #[.slice Ao75 t285.length co75]] rfl z8_1_ ?_; (with_reducible refine (impl_HarderPuzzle.calls k _ _ t285 t288 t291 _ ?side1 ?side2 A26.out).mono ?_); (case side1 => repeat (first | exact (Kd.R_reads' HO287.out).2.2 | (with_reducible refine Kd.C_alloc ?_ _) | (with_reducible refine Kd.C_drewN ?_ _) | (with_reducible refine Kd.C_drew ?_))); (case side2 => exact (Kd.R_reads' HO287.out).2.1); rintro e w76 ⟨v289, rfl, ho0, hb⟩; refine ⟨_, rfl, ?_⟩; have n0_ := Aside0.mk (Kd.R_elder' z8_7_ (Kd.R_base ho0) hb); have n1_ := Aside0.mk (Kd.R_elder' z8_9_ (Kd.R_base ho0) hb); have n2_ := Aside0.mk (Kd.R_elder' z8_12_ (Kd.R_base ho0) hb); have n3_ := Aside0.mk (Kd.R_elder' z8_13_ (Kd.R_base ho0) hb); have n4_ := Aside0.mk (Kd.R_elder' z8_17_ (Kd.R_base ho0) hb); have n5_ := Aside0.mk (Kd.R_elder' z8_23_ (Kd.R_base ho0) hb); have n6_ := Aside0.mk (Kd.R_lower (Kd.R_new' (Kd.R_new' (Kd.R_new' (Kd.R_new' (Kd.R_new' (Kd.R_new' ho0 (Kd.R_lt z8_7_)) (Kd.R_lt z8_9_)) (Kd.R_lt z8_12_)) (Kd.R_lt z8_13_)) (Kd.R_lt z8_17_)) (Kd.R_lt z8_23_)) (below_size z8_0_)); have n7_ := Aside0.mk (blk_below (g := gb253) (o := .cells #[.slice A0_0 l0_0.length c0_0] 31 (0, 0)) z8_2_ hb); have n8_ := Aside0.mk (blk_below (g := gb262) (o := .cells #[.slice Ao41 t258.length co41] 37 (0, 0)) z8_5_ hb); have n9_ := Aside0.mk (blk_below (g := gb266) (o := .cells #[.slice Ao47 t263.length co47] 37 (0, 0)) z8_6_ hb); have n10_ := Aside0.mk (blk_below (g := gb271) (o := .cells #[.slice Ao53 t267.length co53] 37 (0, 0)) z8_11_ hb); have n11_ := Aside0.mk (below_step z8_0_ hb); clear HO257; clear HO260; clear HO265; clear HO269; clear HO276; clear HO287; clear BK253; clear BK262; clear BK266; clear BK271; clear HB; have HO257 := n0_; have HO260 := n1_; have HO265 := n2_; have HO269 := n3_; have HO276 := n4_; have HO287 := n5_; have HO290 := n6_; have BK253 := n7_; have BK262 := n8_; have BK266 := n9_; have BK271 := n10_; have HB := n11_; clear n0_ n1_ n2_ n3_ n4_ n5_ n6_ n7_ n8_ n9_ n10_ n11_; (try clear hb); (try clear hb2); (try clear hk); (try clear hi); (try clear ho0)) | ((with_reducible refine gate_dst (N := 12) rfl ?_); refine box_event ?hg (N := 12) ?hd (cs := #[.slice none 0 0]) (t := 37) ?hr ?_; (case hd => rfl); (case hg => rfl); (case hr => first | (go_simp; done) | (go_simp; rfl)); intro gb292 hg w77 hbox hb; have n0_ := Aside0.mk (Kd.R_below z8_7_ hb); have n1_ := Aside0.mk (Kd.R_below z8_9_ hb); have n2_ := Aside0.mk (Kd.R_below z8_12_ hb); have n3_ := Aside0.mk (Kd.R_below z8_13_ hb); have n4_ := Aside0.mk (Kd.R_below z8_17_ hb); have n5_ := Aside0.mk (Kd.R_below z8_23_ hb); have n6_ := Aside0.mk (Kd.R_below (by (with_reducible repeat (first | apply Kd.R_alloc | apply Kd.R_drewN | apply Kd.R_drew)); exact HO290.out) hb); have n7_ := Aside0.mk (blk_below (g := gb253) (o := .cells #[.slice A0_0 l0_0.length c0_0] 31 (0, 0)) z8_2_ hb); have n8_ := Aside0.mk (blk_below (g := gb262) (o := .cells #[.slice Ao41 t258.length co41] 37 (0, 0)) z8_5_ hb); have n9_ := Aside0.mk (blk_below (g := gb266) (o := .cells #[.slice Ao47 t263.length co47] 37 (0, 0)) z8_6_ hb); have n10_ := Aside0.mk (blk_below (g := gb271) (o := .cells #[.slice Ao53 t267.length co53] 37 (0, 0)) z8_11_ hb); have n11_ := Aside0.mk (below_step z8_0_ hb); have n12_ := Aside0.mk (hbox); have n13_ := Aside0.mk ((by rw [hg]; exact (below_size z8_0_) : w.heap.size ≤ gb292)); have n14_ := Aside0.mk ((by rw [hg]; exact (below_size z8_0_) : w.heap.size ≤ gb292)); have n15_ := Aside0.mk ((by rw [hg]; exact Nat.ne_of_lt (blk_lt (g := gb253) (o := .cells #[.slice A0_0 l0_0.length c0_0] 31 (0, 0)) z8_2_) : gb253 ≠ gb292)); have n16_ := Aside0.mk ((by rw [hg]; exact Nat.ne_of_gt (blk_lt (g := gb253) (o := .cells #[.slice A0_0 l0_0.length c0_0] 31 (0, 0)) z8_2_) : gb292 ≠ gb253)); have n17_ := Aside0.mk ((by rw [hg]; exact Nat.ne_of_lt (blk_lt (g := gb262) (o := .cells #[.slice Ao41 t258.length co41] 37 (0, 0)) z8_5_) : gb262 ≠ gb292)); have n18_ := Aside0.mk ((by rw [hg]; exact Nat.ne_of_gt (blk_lt (g := gb262) (o := .cells #[.slice Ao41 t258.length co41] 37 (0, 0)) z8_5_) : gb292 ≠ gb262)); have n19_ := Aside0.mk ((by rw [hg]; exact Nat.ne_of_lt (blk_lt (g := gb266) (o := .cells #[.slice Ao47 t263.length co47] 37 (0, 0)) z8_6_) : gb266 ≠ gb292)); have n20_ := Aside0.mk ((by rw [hg]; exact Nat.ne_of_gt (blk_lt (g := gb266) (o := .cells #[.slice Ao47 t263.length co47] 37 (0, 0)) z8_6_) : gb292 ≠ gb266)); have n21_ := Aside0.mk ((by rw [hg]; exact Nat.ne_of_lt (blk_lt (g := gb271) (o := .cells #[.slice Ao53 t267.length co53] 37 (0, 0)) z8_11_) : gb271 ≠ gb292)); have n22_ := Aside0.mk ((by rw [hg]; exact Nat.ne_of_gt (blk_lt (g := gb271) (o := .cells #[.slice Ao53 t267.length co53] 37 (0, 0)) z8_11_) : gb292 ≠ gb271)); clear HO257; clear HO260; clear HO265; clear HO269; clear HO276; clear HO287; clear HO290; clear BK253; clear BK262; clear BK266; clear BK271; clear HB; have HO257 := n0_; have HO260 := n1_; have HO265 := n2_; have HO269 := n3_; have HO276 := n4_; have HO287 := n5_; have HO290 := n6_; have BK253 := n7_; have BK262 := n8_; have BK266 := n9_; have BK271 := n10_; have HB := n11_; have BK292 := n12_; have GW292 := n13_; have GE292 := n14_; have NB253_292 := n15_; have NB292_253 := n16_; have NB262_292 := n17_; have NB292_262 := n18_; have NB266_292 := n19_; have NB292_266 := n20_; have NB271_292 := n21_; have NB292_271 := n22_; clear n0_ n1_ n2_ n3_ n4_ n5_ n6_ n7_ n8_ n9_ n10_ n11_ n12_ n13_ n14_ n15_ n16_ n17_ n18_ n19_ n20_ n21_ n22_; clear hb hbox hg; obtain ⟨Ao78, co78, eo78⟩ := Kd.R_slice HO290.out; subst eo78; have hnb79 := NB292_253.out; have hnc79 := NB253_292.out; have hnb80 := NB292_262.out; have hnc80 := NB262_292.out; have hnb81 := NB292_266.out; have hnc81 := NB266_292.out; have hnb82 := NB292_271.out; have hnc82 := NB271_292.out; have hcz83_0 : w77.cell? ⟨gb292, 0, none⟩ = some (.slice none 0 0) := (blk_cell BK292.out 0).trans rfl; have hfz83_0 := blk_frozen BK292.out 0; have hcz84_0 : w77.cell? ⟨gb262, 0, none⟩ = some (.slice Ao41 t258.length co41) := (blk_cell BK262.out 0).trans rfl; have hfz84_0 := blk_frozen BK262.out 0) | ((with_reducible refine gate_callee (f := 22) rfl ?_); refine goesL_ (some 81) rfl rfl Tryd.func22 (by kernel_rfl) rfl #[.agg #[.slice Ao78 t288.length co78], .agg #[.slice Ao41 t258.length co41]] rfl z8_1_ ?_; (with_reducible refine (laws_eqPuzzle.calls k _ _ t288 _ _ t258 true _ ?side1 ?side2 ?side3 ?side4 A27.out).mono ?_); (case side1 => refine (Kd.R_reads' (e := 26) (base := w.heap.size) (ok := fun k_ => ((((((True ∧ some k_ ≠ (.slice Ao38 t255.length co38 : Value).ownBlock) ∧ some k_ ≠ (.slice Ao41 t258.length co41 : Value).ownBlock) ∧ some k_ ≠ (.slice Ao47 t263.length co47 : Value).ownBlock) ∧ some k_ ≠ (.slice Ao53 t267.length co53 : Value).ownBlock) ∧ some k_ ≠ (.slice Ao62 t274.length co62 : Value).ownBlock) ∧ some k_ ≠ (.slice Ao75 t285.length co75 : Value).ownBlock)) (n := t288.length) (c := co78) ?_).2.2; exact (by (with_reducible repeat (first | apply Kd.R_alloc | apply Kd.R_drewN | apply Kd.R_drew)); exact (Kd.R_mono (Kd.R_far (p := ⟨gb292, 0, none⟩) (Kd.R_types HO290.out BK292.out (by decide)) (fun _ hk => hk.2) (.slice Ao78 t288.length co78)) (fun _ h_ => h_.1)))); (case side2 => exact (Kd.R_reads' HO290.out).2.1); (case side3 => refine (Kd.R_reads' (e := 26) (base := w.heap.size) (ok := fun k_ => (((some k_ ≠ (.slice Ao38 t255.length co38 : Value).ownBlock ∧ (some k_ ≠ (.slice Ao47 t263.length co47 : Value).ownBlock ∧ (some k_ ≠ (.slice Ao53 t267.length co53 : Value).ownBlock ∧ some k_ ≠ (.slice Ao62 t274.length co62 : Value).ownBlock))) ∧ some k_ ≠ (.slice Ao75 t285.length co75 : Value).ownBlock) ∧ some k_ ≠ (.slice Ao78 t288.length co78 : Value).ownBlock)) (n := t258.length) (c := co41) ?_).2.2; exact (by (with_reducible repeat (first | apply Kd.R_alloc | apply Kd.R_drewN | apply Kd.R_drew)); exact (Kd.R_mono (Kd.R_far (p := ⟨gb292, 0, none⟩) (Kd.R_types HO260.out BK292.out (by decide)) (fun _ hk => hk.2) (.slice Ao78 t288.length co78)) (fun _ h_ => h_.1)))); (case side4 => exact (Kd.R_reads' HO260.out).2.1); rintro e w85 ⟨rfl, hb⟩; refine ⟨_, rfl, ?_⟩; have n0_ := Aside0.mk (Kd.R_below (by (with_reducible repeat (first | apply Kd.R_alloc | apply Kd.R_drewN | apply Kd.R_drew)); exact (Kd.R_mono (Kd.R_far (p := ⟨gb292, 0, none⟩) (Kd.R_types HO257.out BK292.out (by decide)) (fun _ hk => hk.2) (.slice Ao78 t288.length co78)) (fun _ h_ => h_.1))) hb); have n1_ := Aside0.mk (Kd.R_below (by (with_reducible repeat (first | apply Kd.R_alloc | apply Kd.R_drewN | apply Kd.R_drew)); exact (Kd.R_mono (Kd.R_far (p := ⟨gb292, 0, none⟩) (Kd.R_types HO260.out BK292.out (by decide)) (fun _ hk => hk.2) (.slice Ao78 t288.length co78)) (fun _ h_ => h_.1))) hb); have n2_ := Aside0.mk (Kd.R_below (by (with_reducible repeat (first | apply Kd.R_alloc | apply Kd.R_drewN | apply Kd.R_drew)); exact (Kd.R_mono (Kd.R_far (p := ⟨gb292, 0, none⟩) (Kd.R_types HO265.out BK292.out (by decide)) (fun _ hk => hk.2) (.slice Ao78 t288.length co78)) (fun _ h_ => h_.1))) hb); have n3_ := Aside0.mk (Kd.R_below (by (with_reducible repeat (first | apply Kd.R_alloc | apply Kd.R_drewN | apply Kd.R_drew)); exact (Kd.R_mono (Kd.R_far (p := ⟨gb292, 0, none⟩) (Kd.R_types HO269.out BK292.out (by decide)) (fun _ hk => hk.2) (.slice Ao78 t288.length co78)) (fun _ h_ => h_.1))) hb); have n4_ := Aside0.mk (Kd.R_below (by (with_reducible repeat (first | apply Kd.R_alloc | apply Kd.R_drewN | apply Kd.R_drew)); exact (Kd.R_mono (Kd.R_far (p := ⟨gb292, 0, none⟩) (Kd.R_types HO276.out BK292.out (by decide)) (fun _ hk => hk.2) (.slice Ao78 t288.length co78)) (fun _ h_ => h_.1))) hb); have n5_ := Aside0.mk (Kd.R_below (by (with_reducible repeat (first | apply Kd.R_alloc | apply Kd.R_drewN | apply Kd.R_drew)); exact (Kd.R_mono (Kd.R_far (p := ⟨gb292, 0, none⟩) (Kd.R_types HO287.out BK292.out (by decide)) (fun _ hk => hk.2) (.slice Ao78 t288.length co78)) (fun _ h_ => h_.1))) hb); have n6_ := Aside0.mk (Kd.R_below (by (with_reducible repeat (first | apply Kd.R_alloc | apply Kd.R_drewN | apply Kd.R_drew)); exact (Kd.R_mono (Kd.R_far (p := ⟨gb292, 0, none⟩) (Kd.R_types HO290.out BK292.out (by decide)) (fun _ hk => hk.2) (.slice Ao78 t288.length co78)) (fun _ h_ => h_.1))) hb); have n7_ := Aside0.mk (blk_below (g := gb253) (o := .cells #[.slice A0_0 l0_0.length c0_0] 31 (0, 0)) (by (with_reducible repeat (first | refine blk_drewN ?_ _ | refine blk_drew ?_ | refine blk_alloc ?_ _)); refine blk_far ?_ NB253_292.out _; (with_reducible repeat (first | refine blk_drewN ?_ _ | refine blk_drew ?_ | refine blk_alloc ?_ _)); exact BK253.out) hb); have n8_ := Aside0.mk (blk_below (g := gb262) (o := .cells #[.slice Ao41 t258.length co41] 37 (0, 0)) (by (with_reducible repeat (first | refine blk_drewN ?_ _ | refine blk_drew ?_ | refine blk_alloc ?_ _)); refine blk_far ?_ NB262_292.out _; (with_reducible repeat (first | refine blk_drewN ?_ _ | refine blk_drew ?_ | refine blk_alloc ?_ _)); exact BK262.out) hb); have n9_ := Aside0.mk (blk_below (g := gb266) (o := .cells #[.slice Ao47 t263.length co47] 37 (0, 0)) (by (with_reducible repeat (first | refine blk_drewN ?_ _ | refine blk_drew ?_ | refine blk_alloc ?_ _)); refine blk_far ?_ NB266_292.out _; (with_reducible repeat (first | refine blk_drewN ?_ _ | refine blk_drew ?_ | refine blk_alloc ?_ _)); exact BK266.out) hb); have n10_ := Aside0.mk (blk_below (g := gb271) (o := .cells #[.slice Ao53 t267.length co53] 37 (0, 0)) (by (with_reducible repeat (first | refine blk_drewN ?_ _ | refine blk_drew ?_ | refine blk_alloc ?_ _)); refine blk_far ?_ NB271_292.out _; (with_reducible repeat (first | refine blk_drewN ?_ _ | refine blk_drew ?_ | refine blk_alloc ?_ _)); exact BK271.out) hb); have n11_ := Aside0.mk (blk_below (g := gb292) (o := .cells #[.slice Ao78 t288.length co78] 37 (0, 0)) (by (with_reducible repeat (first | refine blk_drewN ?_ _ | refine blk_drew ?_ | refine blk_alloc ?_ _)); refine blk_put (cs := #[.slice none 0 0]) ?_ 0 _ rfl; (with_reducible repeat (first | refine blk_drewN ?_ _ | refine blk_drew ?_ | refine blk_alloc ?_ _)); exact BK292.out) hb); have n12_ := Aside0.mk (below_step z8_20_ hb); clear HO257; clear HO260; clear HO265; clear HO269; clear HO276; clear HO287; clear HO290; clear BK253; clear BK262; clear BK266; clear BK271; clear BK292; clear HB; have HO257 := n0_; have HO260 := n1_; have HO265 := n2_; have HO269 := n3_; have HO276 := n4_; have HO287 := n5_; have HO290 := n6_; have BK253 := n7_; have BK262 := n8_; have BK266 := n9_; have BK271 := n10_; have BK292 := n11_; have HB := n12_; clear n0_ n1_ n2_ n3_ n4_ n5_ n6_ n7_ n8_ n9_ n10_ n11_ n12_; (try clear hb); (try clear hb2); (try clear hk); (try clear hi); have hcz86_0 : w85.cell? ⟨gb271, 0, none⟩ = some (.slice Ao53 t267.length co53) := (blk_cell BK271.out 0).trans rfl; have hfz86_0 := blk_frozen BK271.out 0) | ((with_reducible refine gate_callee (f := 28) rfl ?_); refine goesL_ (some 90) rfl rfl Tryd.func28 (by kernel_rfl) rfl #[.agg #[.slice Ao53 t283.length co53], .int .i64 1] rfl z8_22_ ?_; (with_reducible refine (laws_heldPuzzle.calls k _ _ t283 1 t295 _ ?side1 ?side2 A30.out).mono ?_); (case side1 => repeat (first | exact (Kd.R_reads' HO269.out).2.2 | (with_reducible refine Kd.C_alloc ?_ _) | (with_reducible refine Kd.C_drewN ?_ _) | (with_reducible refine Kd.C_drew ?_))); (case side2 => rw [show t283.length = t267.length from (Kd.R_reads' HO269.out).1.symm]; exact (Kd.R_reads' HO269.out).2.1); rintro e w87 ⟨rfl, hb⟩; refine ⟨_, rfl, ?_⟩; have n0_ := Aside0.mk (Kd.R_below z8_7_ hb); have n1_ := Aside0.mk (Kd.R_below z8_9_ hb); have n2_ := Aside0.mk (Kd.R_below z8_12_ hb); have n3_ := Aside0.mk (Kd.R_below z8_13_ hb); have n4_ := Aside0.mk (Kd.R_below z8_17_ hb); have n5_ := Aside0.mk (Kd.R_below z8_23_ hb); have n6_ := Aside0.mk (Kd.R_below (by (with_reducible repeat (first | apply Kd.R_alloc | apply Kd.R_drewN | apply Kd.R_drew)); exact HO290.out) hb); have n7_ := Aside0.mk (blk_below (g := gb253) (o := .cells #[.slice A0_0 l0_0.length c0_0] 31 (0, 0)) z8_2_ hb); have n8_ := Aside0.mk (blk_below (g := gb262) (o := .cells #[.slice Ao41 t258.length co41] 37 (0, 0)) z8_5_ hb); have n9_ := Aside0.mk (blk_below (g := gb266) (o := .cells #[.slice Ao47 t263.length co47] 37 (0, 0)) z8_6_ hb); have n10_ := Aside0.mk (blk_below (g := gb271) (o := .cells #[.slice Ao53 t267.length co53] 37 (0, 0)) z8_11_ hb); have n11_ := Aside0.mk (blk_below (g := gb292) (o := .cells #[.slice Ao78 t288.length co78] 37 (0, 0)) (by (with_reducible repeat (first | refine blk_drewN ?_ _ | refine blk_drew ?_ | refine blk_alloc ?_ _)); exact BK292.out) hb); have n12_ := Aside0.mk (below_step z8_20_ hb); clear HO257; clear HO260; clear HO265; clear HO269; clear HO276; clear HO287; clear HO290; clear BK253; clear BK262; clear BK266; clear BK271; clear BK292; clear HB; have HO257 := n0_; have HO260 := n1_; have HO265 := n2_; have HO269 := n3_; have HO276 := n4_; have HO287 := n5_; have HO290 := n6_; have BK253 := n7_; have BK262 := n8_; have BK266 := n9_; have BK271 := n10_; have BK292 := n11_; have HB := n12_; clear n0_ n1_ n2_ n3_ n4_ n5_ n6_ n7_ n8_ n9_ n10_ n11_ n12_; (try clear hb); (try clear hb2); (try clear hk); (try clear hi)))
         go_ret
         exact ⟨by first | rfl | (simp [errW_none, errW_some] <;> rfl) | (simp [*, errW_none, errW_some] <;> rfl), by repeat (first | (with_reducible first | exact HB.out | apply below_alloc | apply pw_below_drewN | apply below_drew1 | refine below_set ?_ GE253.out | refine below_set ?_ GE262.out | refine below_set ?_ GE266.out | refine below_set ?_ GE271.out | refine below_set ?_ GE292.out) | exact HB.out)⟩
       replace c28 := Bool.eq_false_iff.mpr c28
       subst c28
       rw [if_neg (show ¬ (false = true) by decide)] at H
       exact Bool.noConfusion ((Option.some.inj H).trans hr_.out)
     replace c20 := Bool.eq_false_iff.mpr c20
     subst c20
     rw [if_neg (show ¬ (false = true) by decide)] at H
     exact Bool.noConfusion ((Option.some.inj H).trans hr_.out)
   replace c16 := Bool.eq_false_iff.mpr c16
   subst c16
   rw [if_neg (show ¬ (false = true) by decide)] at H
   exact Bool.noConfusion ((Option.some.inj H).trans hr_.out)
 replace c12 := Bool.eq_false_iff.mpr c12
 subst c12
 rw [if_neg (show ¬ (false = true) by decide)] at H
 exact Bool.noConfusion ((Option.some.inj H).trans hr_.out)

end Go.Proofs.YtgpakeadepcgnaaDoor.PFnExactHarderPuzzle

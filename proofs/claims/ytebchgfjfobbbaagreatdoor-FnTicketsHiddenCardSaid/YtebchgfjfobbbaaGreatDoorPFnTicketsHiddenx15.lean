-- Laid by this session's program gprint.py over the kit's print.
import Derived.Test.YtebchgfjfobbbaaGreatDoorSq
import Derived.Test.YtebchgfjfobbbaaGreatDoorZip
import Derived.Test.YtebchgfjfobbbaaGreatDoorPFnTicketsHiddenx6
import Derived.Test.YtebchgfjfobbbaaGreatDoorPFnTicketsHiddenx11
namespace Go.Proofs.YtebchgfjfobbbaaGreatDoor.PFnTicketsHidden
open Go.RowKit Go.Proofs.YtebchgfjfobbbaaGreatDoorW.PrintWords Go.Proofs.YtebchgfjfobbbaaGreatDoorW.PrintLast Go.Proofs.YtebchgfjfobbbaaGreatDoorW.PrintMore
attribute [local go_sem] max2_int min2_int max_two min_two max_three min_three max_four min_four   -- for this text's walks alone
set_option linter.unusedVariables false
set_option linter.unusedSimpArgs false
theorem zq15_0_ {p : Prop} (h : p := by exact rr_ HO_361000.out) : p := h
theorem zq15_1_ {p : Prop} (h : p := by exact rr_ HO438.out) : p := h
theorem zq15_2_ {p : Prop} (h : p := by exact rr_ HO389.out) : p := h
theorem zq15_3_ {p : Prop} (h : p := by simp only [putAll, Act.put, List.setIfInBounds_toArray, List.set_cons_zero, List.set_cons_succ]) : p := h
theorem zc15_0_ {p : Prop} (h : p := by repeat (first | (with_reducible first | exact HI461.out | apply IsS74.alloc | apply IsS74.drewN | apply IsS74.drew | apply IsS74.set_1 | apply IsS74.set_2 | refine IsS74.far ?_ NB461_459.out _ | refine IsS74.far ?_ NB461_460.out _) | exact HI461.out)) : p := h
theorem zc15_1_ {p : Prop} (h : p := by repeat (first | (with_reducible first | exact HB.out | apply below_alloc | apply pw_below_drewN | apply below_drew1 | refine below_set ?_ (IsS74.ge HI461.out) | refine below_set ?_ GE459.out | refine below_set ?_ GE460.out) | exact HB.out)) : p := h
theorem zc15_2_ {p : Prop} (h : p := by repeat (first | (with_reducible first | exact HI338.out | apply IsS74.alloc | apply IsS74.drewN | apply IsS74.drew | apply IsS74.set_1 | apply IsS74.set_2 | refine IsS74.far ?_ NB338_337.out _) | exact HI338.out)) : p := h
theorem zc15_3_ {p : Prop} (h : p := by repeat (first | (with_reducible first | exact HB.out | apply below_alloc | apply pw_below_drewN | apply below_drew1 | refine below_set ?_ (IsS74.ge HI338.out) | refine below_set ?_ GE337.out) | exact HB.out)) : p := h
theorem zc15_4_ {p : Prop} (h : p := by exact (Reps.c3 (show Kd.M k37 _ _ _ (⟨a1_0, a1_1, a1_2⟩ : S37) [.int .i64 a1_0, .int .i64 a1_1, .int .i64 a1_2] from (k37_mkM _ _ _ (⟨a1_0, a1_1, a1_2⟩ : S37) )) (Reps.none _ _))) : p := h
theorem zc15_5_ {p : Prop} (h : p := by repeat (first | exact (Kd.C_below HR0_0.out HB.out) | (with_reducible refine Kd.C_alloc ?_ _) | (with_reducible refine Kd.C_drewN ?_ _) | (with_reducible refine Kd.C_drew ?_))) : p := h
theorem zc15_6_ {p : Prop} (h : p := by repeat (first | exact (Kd.R_reads' HO389.out).2.2 | (with_reducible refine Kd.C_alloc ?_ _) | (with_reducible refine Kd.C_drewN ?_ _) | (with_reducible refine Kd.C_drew ?_))) : p := h
theorem zc15_7_ {p : Prop} (h : p := by repeat (first | exact (Kd.R_reads' HO438.out).2.2 | (with_reducible refine Kd.C_alloc ?_ _) | (with_reducible refine Kd.C_drewN ?_ _) | (with_reducible refine Kd.C_drew ?_))) : p := h
theorem zc15_8_ {p : Prop} (h : p := by repeat (first | exact (Kd.R_reads' HO450.out).2.2 | (with_reducible refine Kd.C_alloc ?_ _) | (with_reducible refine Kd.C_drewN ?_ _) | (with_reducible refine Kd.C_drew ?_))) : p := h
theorem zc15_9_ {p : Prop} (h : p := by repeat (first | exact (Kd.R_reads' HO_6.out).2.2 | (with_reducible refine Kd.C_alloc ?_ _) | (with_reducible refine Kd.C_drewN ?_ _) | (with_reducible refine Kd.C_drew ?_))) : p := h
theorem zc15_10_ {p : Prop} (h : p := by repeat (first | exact (Kd.R_reads' HO_4.out).2.2 | (with_reducible refine Kd.C_alloc ?_ _) | (with_reducible refine Kd.C_drewN ?_ _) | (with_reducible refine Kd.C_drew ?_))) : p := h
theorem zc15_11_ {p : Prop} (h : p := by first | (go_simp; done) | (go_simp; rfl)) : p := h
theorem z12_1_ {p : Prop} (h : p := by exact b_ BK337.out) : p := h
theorem z12_2_ {p : Prop} (h : p := by (try simp only [List.map_toArray, List.map_cons, List.map_nil]); first | done | rfl | (simp only [List.length_drop, List.length_take]; rfl)) : p := h
theorem z12_3_ {p : Prop} (h : p := by repeat (first | (with_reducible first | exact HB.out | apply below_alloc | apply pw_below_drewN | apply below_drew1 | refine below_set ?_ (IsS74.ge HI338.out) | refine below_set ?_ GE337.out) | exact HB.out)) : p := h
theorem z12_4_ {p : Prop} (h : p := by repeat (first | (with_reducible first | exact HB.out | apply below_alloc | apply pw_below_drewN | apply below_drew1 | refine below_set ?_ GE337.out) | exact HB.out)) : p := h
theorem z12_5_ {p : Prop} (h : p := by repeat (first | (with_reducible first | exact HB.out | apply below_alloc | apply pw_below_drewN | apply below_drew1 | refine below_set ?_ GE367.out) | exact HB.out)) : p := h
theorem z12_6_ {p : Prop} (h : p := by repeat (first | (with_reducible first | exact HB.out | apply below_alloc | apply pw_below_drewN | apply below_drew1 | refine below_set ?_ GE337.out | refine below_set ?_ GE360.out) | exact HB.out)) : p := h
theorem z12_7_ {p : Prop} (h : p := by refine b_ ?_; refine blk_put (cs := #[.slice none 0 0]) ?_ 0 _ rfl; exact b_ BK337.out) : p := h
theorem z12_8_ {p : Prop} (h : p := by repeat (first | (with_reducible first | exact HI338.out | apply IsS74.alloc | apply IsS74.drewN | apply IsS74.drew | apply IsS74.set_1 | apply IsS74.set_2 | refine IsS74.far ?_ NB338_337.out _) | exact HI338.out)) : p := h
theorem z12_9_ {p : Prop} (h : p := by exact b_ BK367.out) : p := h

/-! ### spec_DrawHarderPuzzle: function 15 -/
def spec_DrawHarderPuzzle.l0 : Nat → ByteArray → Int → List (S37) → Option ((List (S37)))
 | 0, _, _, _ => none
 | k + 1, x4, x7, x361000 => if x7 < 4 then ((spec_pzOf.f k 1 x7 x4).bind fun bt361 => (if x361000.length < 5864062014805 then (spec_DrawHarderPuzzle.l0 k x4 (wrap64 (x7 + 1)) (x361000 ++ [(⟨bt361.1, bt361.2.1, bt361.2.2⟩ : S37)])) else (none))) else (some x361000)
def spec_DrawHarderPuzzle.f (k : Nat) (l0 : List Int) : Option ((List (S37))) := (spec_l1Cur_one.f l0 0 0 4).bind fun bt339 => (if bt339.1 = true then ((spec_l1Cur_puzzle.f k l0 bt339.2.1 bt339.2.2).bind fun bt342 => (some bt342.1)) else ((spec_l1Cur_hidden.f k l0 bt339.2.1 bt339.2.2).bind fun bt347 => ((spec_l1Cur_pick.f l0 bt347.2.1 bt347.2.2 3).bind fun bt350 => ((spec_l1Cur_pick.f l0 bt350.2.1 bt350.2.2 10000).bind fun bt353 => ((spec_MakePuzzle.f k bt347.1 bt350.1 bt353.1).bind fun bt356 => (spec_DrawHarderPuzzle.l0 k bt347.1 0 bt356.1))))))
theorem spec_DrawHarderPuzzle.mono_l : ∀ k, (∀ y0 y1 y2, LeO (spec_DrawHarderPuzzle.l0 k y0 y1 y2) (spec_DrawHarderPuzzle.l0 (k + 1) y0 y1 y2))
 | 0 => fun _ _ _ r h => by simp [spec_DrawHarderPuzzle.l0] at h
 | k + 1 => by
  have ih0 := spec_DrawHarderPuzzle.mono_l k
  intro y0 y1 y2
  unfold spec_DrawHarderPuzzle.l0
  repeat' first
  | (with_reducible exact ih0 _ _ _)
  | (with_reducible exact spec_MakePuzzle.mono _ _ _ _)
  | (with_reducible exact spec_l1Cur_hidden.mono _ _ _ _)
  | (with_reducible exact spec_l1Cur_puzzle.mono _ _ _ _)
  | (with_reducible exact spec_pzOf.mono _ _ _ _)
  | (with_reducible exact LeO.refl _)
  | (with_reducible exact LeO.none _)
  | (with_reducible refine LeO.ite ?_ ?_)
  | (with_reducible refine LeO.bind ?_ (fun _ => ?_))
  | exact LeO.none _
  | refine LeO.ite ?_ ?_
  | refine LeO.bind ?_ (fun _ => ?_)
theorem spec_DrawHarderPuzzle.mono : ∀ a0 k, LeO (spec_DrawHarderPuzzle.f k a0) (spec_DrawHarderPuzzle.f (k + 1) a0) := by
 intro a0 k
 have ih0 := spec_DrawHarderPuzzle.mono_l k
 unfold spec_DrawHarderPuzzle.f
 repeat' first
  | (with_reducible exact ih0 _ _ _)
  | (with_reducible exact spec_MakePuzzle.mono _ _ _ _)
  | (with_reducible exact spec_l1Cur_hidden.mono _ _ _ _)
  | (with_reducible exact spec_l1Cur_puzzle.mono _ _ _ _)
  | (with_reducible exact spec_pzOf.mono _ _ _ _)
  | (with_reducible exact LeO.refl _)
  | (with_reducible exact LeO.none _)
  | (with_reducible refine LeO.ite ?_ ?_)
  | (with_reducible refine LeO.bind ?_ (fun _ => ?_))
  | exact LeO.none _
  | refine LeO.ite ?_ ?_
  | refine LeO.bind ?_ (fun _ => ?_)
def spec_DrawHarderPuzzle.T9 : Bool × List (List Nat × List Nat) := (true, [([], []), ([0], [0]), ([], []), ([], []), ([2, 3], [2, 3]), ([4], [4]), ([1, 5, 4], [1, 5]), ([0, 1, 2, 3, 4, 5, 6], []), ([7, 6, 6, 0, 1, 2, 3, 4, 5, 6], [6, 7])])
def spec_DrawHarderPuzzle.B9 : List Nat := [0, 1, 0, 0, 12, 28, 63, 127, 255]
theorem spec_DrawHarderPuzzle.tab9 : rtab .any (opsOf Tryz.f15 9) = spec_DrawHarderPuzzle.T9 := by kernel_rfl
theorem spec_DrawHarderPuzzle.bits9 : waitsOk spec_DrawHarderPuzzle.T9.2 spec_DrawHarderPuzzle.B9 = true := by kernel_rfl
set_option maxHeartbeats 8000000 in
set_option maxRecDepth 100000 in
theorem spec_DrawHarderPuzzle.calls (k : Nat) (A0 : Option Addr) (c0 : Nat) (l0 : List Int) (r : List (S37)) (w : World) (hr0 : Kd.C (Kd.int .u8) w A0 l0.length l0) (hc0 : l0.length ≤ c0) (h : spec_DrawHarderPuzzle.f k l0 = some r) :
 Calls Tryz.prog 15 #[.slice A0 l0.length c0] w fun e w' => ∃ v0_ : Value, e = .returned (.agg #[v0_]) ∧ Kd.R k37 37 w' w.heap.size (fun _ => True) v0_ r ∧ Below w.heap.size w w' := by
 have hu28 := Tryz.underlying28
 have hu74 := Tryz.underlying74
 have HR0 := Aside0.mk hr0
 have HC0 := Aside0.mk hc0
 clear hr0 hc0
 have HB := Aside0.mk (Below.refl w.heap.size w)
 unfold spec_DrawHarderPuzzle.f at h
 have H := h
 clear h
 replace H := bd_ H; obtain ⟨⟨t339, t340, t341⟩, A2, H⟩ := H
 dsimp only at H
 by_cases c3 : t339 = true
 · subst c3
   rw [if_pos rfl] at H
   replace H := bd_ H; obtain ⟨⟨t342, t345, t346⟩, A4, H⟩ := H
   dsimp only at H
   obtain rfl := Option.some.inj H
   go_enter Tryz.func15, Tryz.ntmps15
   go_wp2_with (first | (refine bx_ 2 #[.slice none 0 0] 28 ?_; intro gb337 hg w5 hbox hb; have BK337 := Aside0.mk (hbox); have GW337 : Aside0 (w.heap.size ≤ gb337) := bs_ hg zB_; have GE337 := GW337; replace HB := Aside0.mk (below_step zB_ hb); clear hb hbox hg) | (refine bx_ 10 #[.slice A0 l0.length c0, .int .i64 0, .int .u64 0] 74 ?_; intro gb338 hg w6 hbox hb; have NB337_338 := nl_ BK337 z12_1_ hg; have NB338_337 := ns_ NB337_338; replace BK337 := bb_ BK337 z12_1_ hb; have HI338 := Aside0.mk ((⟨_, _, hbox, (by rw [hg]; exact (below_size z12_4_) : w.heap.size ≤ gb338), HR0.out⟩ : IsS74 w w6 gb338 l0 0 0)); replace HB := Aside0.mk (below_step z12_4_ hb); clear hb hbox hg) | ((with_reducible refine gc_ 57 rfl ?_); refine gL_ 12 Tryz.func57 #[.pointer (some ⟨gb338, 0, none⟩), .int .i64 4] ?_; (with_reducible refine (spec_l1Cur_one.calls gb338 l0 0 0 4 true t340 t341 w _ ?side1 ?side2 A2.out).mono ?_); (case side1 => exact zc15_2_); (case side2 => exact zc15_3_); rintro e w7 ⟨rfl, hi, hb, hk⟩; refine ⟨_, rfl, ?_⟩; replace BK337 := Aside0.mk (KeepBut.blk hk (g' := gb337) (o := .cells #[.slice none 0 0] 28 (0, 0)) z12_1_ NB337_338.out (by simp)); replace HB := Aside0.mk (hb); replace HI338 := Aside0.mk (hi)) | ((with_reducible refine gc_ 77 rfl ?_); refine gL_ 14 Tryz.func77 #[.pointer (some ⟨gb338, 0, none⟩)] ?_; (with_reducible refine (spec_l1Cur_puzzle.calls k gb338 l0 t340 t341 t342 t345 t346 w _ ?side1 ?side2 A4.out).mono ?_); (case side1 => exact zc15_2_); (case side2 => exact zc15_3_); rintro e w8 ⟨v343, rfl, ho0, hi, hb, hk⟩; refine ⟨_, rfl, ?_⟩; replace BK337 := Aside0.mk (KeepBut.blk hk (g' := gb337) (o := .cells #[.slice none 0 0] 28 (0, 0)) z12_1_ NB337_338.out (by simp)); have HO344 := Aside0.mk (Kd.R_lower ho0 (below_size z12_3_)); replace HB := Aside0.mk (hb); replace HI338 := Aside0.mk (hi); obtain ⟨Ao9, co9, eo9⟩ := Kd.R_slice HO344.out; subst eo9; have hnb10 := NB337_338.out; have hnc10 := NB338_337.out; have hcz11_0 : w8.cell? ⟨gb337, 0, none⟩ = some (.slice none 0 0) := (blk_cell BK337.out 0).trans rfl; have hfz11_0 := blk_frozen BK337.out 0))
   refine bodyPost_ret (results_cell_row rfl _ _ gb337 28 #[.slice Ao9 t342.length co9] (0, 0) _ rfl z12_7_ Tryz.underlying28 rfl (by kernel_rfl)) rfl ?_
   exact ⟨_, by first | rfl | (simp [errW_none, errW_some] <;> rfl) | (simp [*, errW_none, errW_some] <;> rfl), by refine rr_ ?_; exact Kd.R_mono (Kd.R_far (p := ⟨gb337, 0, none⟩) (Kd.R_types HO344.out BK337.out (by decide)) (fun _ hk => hk.2) (.slice Ao9 t342.length co9)) (fun _ hk => trivial), by repeat (first | (with_reducible first | exact HB.out | apply below_alloc | apply pw_below_drewN | apply below_drew1 | refine below_set ?_ (IsS74.ge HI338.out) | refine below_set ?_ GE337.out) | exact HB.out)⟩
 replace H := bf_ c3 H; obtain ⟨rfl, H⟩ := H
 replace H := bd_ H; obtain ⟨⟨t347, t348, t349⟩, A12, H⟩ := H
 dsimp only at H
 replace H := bd_ H; obtain ⟨⟨t350, t351, t352⟩, A13, H⟩ := H
 dsimp only at H
 replace H := bd_ H; obtain ⟨⟨t353, t354, t355⟩, A14, H⟩ := H
 dsimp only at H
 replace H := bd_ H; obtain ⟨⟨t356, t359⟩, A15, H⟩ := H
 dsimp only at H
 have H' := Aside0.mk H
 clear H
 go_enter Tryz.func15, Tryz.ntmps15
 go_wp2_with (first | (refine bx_ 2 #[.slice none 0 0] 28 ?_; intro gb337 hg w16 hbox hb; have BK337 := Aside0.mk (hbox); have GW337 : Aside0 (w.heap.size ≤ gb337) := bs_ hg zB_; have GE337 := GW337; replace HB := Aside0.mk (below_step zB_ hb); clear hb hbox hg) | (refine bx_ 10 #[.slice A0 l0.length c0, .int .i64 0, .int .u64 0] 74 ?_; intro gb338 hg w17 hbox hb; have NB337_338 := nl_ BK337 z12_1_ hg; have NB338_337 := ns_ NB337_338; replace BK337 := bb_ BK337 z12_1_ hb; have HI338 := Aside0.mk ((⟨_, _, hbox, (by rw [hg]; exact (below_size z12_4_) : w.heap.size ≤ gb338), HR0.out⟩ : IsS74 w w17 gb338 l0 0 0)); replace HB := Aside0.mk (below_step z12_4_ hb); clear hb hbox hg) | ((with_reducible refine gc_ 57 rfl ?_); refine gL_ 12 Tryz.func57 #[.pointer (some ⟨gb338, 0, none⟩), .int .i64 4] ?_; (with_reducible refine (spec_l1Cur_one.calls gb338 l0 0 0 4 false t340 t341 w _ ?side1 ?side2 A2.out).mono ?_); (case side1 => exact zc15_2_); (case side2 => exact zc15_3_); rintro e w18 ⟨rfl, hi, hb, hk⟩; refine ⟨_, rfl, ?_⟩; replace BK337 := Aside0.mk (KeepBut.blk hk (g' := gb337) (o := .cells #[.slice none 0 0] 28 (0, 0)) z12_1_ NB337_338.out (by simp)); replace HB := Aside0.mk (hb); replace HI338 := Aside0.mk (hi)) | ((with_reducible refine gc_ 60 rfl ?_); refine gL_ 16 Tryz.func60 #[.pointer (some ⟨gb338, 0, none⟩)] ?_; (with_reducible refine (spec_l1Cur_hidden.calls k gb338 l0 t340 t341 t347 t348 t349 w _ ?side1 ?side2 A12.out).mono ?_); (case side1 => exact zc15_2_); (case side2 => exact zc15_3_); rintro e w19 ⟨rfl, hi, hb, hk⟩; refine ⟨_, rfl, ?_⟩; replace BK337 := Aside0.mk (KeepBut.blk hk (g' := gb337) (o := .cells #[.slice none 0 0] 28 (0, 0)) z12_1_ NB337_338.out (by simp)); replace HB := Aside0.mk (hb); replace HI338 := Aside0.mk (hi)) | ((with_reducible refine gc_ 61 rfl ?_); refine gL_ 20 Tryz.func61 #[.pointer (some ⟨gb338, 0, none⟩), .int .i64 3] ?_; (with_reducible refine (spec_l1Cur_pick.calls gb338 l0 t348 t349 3 t350 t351 t352 w _ ?side1 ?side2 A13.out).mono ?_); (case side1 => exact zc15_2_); (case side2 => exact zc15_3_); rintro e w20 ⟨rfl, hi, hb, hk⟩; refine ⟨_, rfl, ?_⟩; replace BK337 := Aside0.mk (KeepBut.blk hk (g' := gb337) (o := .cells #[.slice none 0 0] 28 (0, 0)) z12_1_ NB337_338.out (by simp)); replace HB := Aside0.mk (hb); replace HI338 := Aside0.mk (hi)) | ((with_reducible refine gc_ 61 rfl ?_); refine gL_ 22 Tryz.func61 #[.pointer (some ⟨gb338, 0, none⟩), .int .i64 10000] ?_; (with_reducible refine (spec_l1Cur_pick.calls gb338 l0 t351 t352 10000 t353 t354 t355 w _ ?side1 ?side2 A14.out).mono ?_); (case side1 => exact zc15_2_); (case side2 => exact zc15_3_); rintro e w21 ⟨rfl, hi, hb, hk⟩; refine ⟨_, rfl, ?_⟩; replace BK337 := Aside0.mk (KeepBut.blk hk (g' := gb337) (o := .cells #[.slice none 0 0] 28 (0, 0)) z12_1_ NB337_338.out (by simp)); replace HB := Aside0.mk (hb); replace HI338 := Aside0.mk (hi)) | ((with_reducible refine gc_ 8 rfl ?_); refine gL_ 23 Tryz.func8 #[.string t347, .int .i64 t350, .int .i64 t353] ?_; (with_reducible refine (spec_MakePuzzle.calls k t347 t350 t353 t356 t359 _ A15.out).mono ?_); rintro e w22 ⟨v357, rfl, ho0, hb⟩; refine ⟨_, rfl, ?_⟩; have HO358 := Aside0.mk (Kd.R_lower ho0 (below_size z12_3_)); replace BK337 := bb_ BK337 z12_1_ hb; replace HB := Aside0.mk (below_step z12_3_ hb); replace HI338 := Aside0.mk (IsS74.below z12_8_ hb)) | (refine bx_ 5 #[.slice none 0 0] 28 ?_; intro gb360 hg w23 hbox hb; replace HO358 := Aside0.mk (Kd.R_below (rr_ HO358.out) hb); have BK360 := Aside0.mk (hbox); have GW360 : Aside0 (w.heap.size ≤ gb360) := bs_ hg z12_3_; have GE360 := GW360; replace HB := Aside0.mk (below_step z12_3_ hb); have NB337_360 := nl_ BK337 z12_1_ hg; have NB360_337 := ns_ NB337_360; replace BK337 := bb_ BK337 z12_1_ hb; have NB338_360 := Aside0.mk ((by rw [hg]; exact Nat.ne_of_lt (IsS74.lt (show IsS74 w _ gb338 l0 t354 t355 from by repeat (first | (with_reducible first | exact HI338.out | apply IsS74.alloc | apply IsS74.drewN | apply IsS74.drew | apply IsS74.set_1 | apply IsS74.set_2 | refine IsS74.far ?_ NB338_337.out _) | exact HI338.out))) : gb338 ≠ gb360)); have NB360_338 := Aside0.mk ((by rw [hg]; exact Nat.ne_of_gt (IsS74.lt (show IsS74 w _ gb338 l0 t354 t355 from by repeat (first | (with_reducible first | exact HI338.out | apply IsS74.alloc | apply IsS74.drewN | apply IsS74.drew | apply IsS74.set_1 | apply IsS74.set_2 | refine IsS74.far ?_ NB338_337.out _) | exact HI338.out))) : gb360 ≠ gb338)); replace HI338 := Aside0.mk (IsS74.below z12_8_ hb); clear hb hbox hg; obtain ⟨Ao24, co24, eo24⟩ := Kd.R_slice HO358.out; subst eo24; have hnb25 := NB360_337.out; have hnc25 := NB337_360.out; have hnb26 := NB360_338.out; have hnc26 := NB338_360.out; have hcz27_0 : w23.cell? ⟨gb360, 0, none⟩ = some (.slice none 0 0) := (blk_cell BK360.out 0).trans rfl; have hfz27_0 := blk_frozen BK360.out 0))
 go_loopg [7] k (fun kq v7 w' => ∃ (x7_1 : Int) (x361000_1 : List (S37)) (u361000 : Value), v7 = .int .i64 x7_1 ∧ Aside0 (spec_DrawHarderPuzzle.l0 kq t347 x7_1 x361000_1 = some r) ∧ Aside0 (kq ≤ k) ∧ Aside0 (Kd.R k37 37 w' w.heap.size (fun _ => True) u361000 x361000_1) ∧ Aside0 (w'.heap[gb337]? = some (.cells #[(.slice none 0 0)] 28 (0, 0))) ∧ Aside0 (w'.heap[gb360]? = some (.cells #[u361000] 28 (0, 0))) ∧ Aside0 (Below w.heap.size w w'))
 case atStart => exact ⟨(0), (t356), (.slice Ao24 t356.length co24), zV_, H', ⟨Nat.le_refl _⟩, ⟨by refine rr_ ?_; exact Kd.R_mono (Kd.R_far (p := ⟨gb360, 0, none⟩) (Kd.R_types HO358.out BK360.out (by decide)) (fun _ hk => hk.2) (.slice Ao24 t356.length co24)) (fun _ hk => trivial)⟩, ⟨by refine b_ ?_; refine blk_far ?_ NB337_360.out _; exact b_ BK337.out⟩, ⟨by refine b_ ?_; refine blk_put (cs := #[.slice none 0 0]) ?_ 0 _ rfl; exact b_ BK360.out⟩, ⟨by repeat (first | (with_reducible first | exact HB.out | apply below_alloc | apply pw_below_drewN | apply below_drew1 | refine below_set ?_ (IsS74.ge HI338.out) | refine below_set ?_ GE337.out | refine below_set ?_ GE360.out) | exact HB.out)⟩⟩
 case round =>
  clear H'
  obtain ⟨x7_1, x361000_1, u361000, rfl, HA, HK1, HO_361000, BK337, BK360, HB⟩ := hrel
  cases gk with
  | zero => exact absurd HA.out (by simp [spec_DrawHarderPuzzle.l0])
  | succ k1 =>
   have H := HA.out
   clear HA
   simp only [spec_DrawHarderPuzzle.l0] at H
   by_cases c28 : x7_1 < 4
   · rw [if_pos c28] at H
     have c28b0 := decide_eq_true c28
     clear c28
     replace H := bd_ H; obtain ⟨⟨t361, t362, t363⟩, A29, H⟩ := H
     dsimp only at H
     replace H := gd_ H; obtain ⟨c30, H⟩ := H
     have LMc30 := Aside0.mk c30
     clear c30
     obtain ⟨y364, hy364⟩ : ∃ y_ : List (S37), y_ = (x361000_1 ++ [(⟨t361, t362, t363⟩ : S37)]) := ⟨_, rfl⟩
     replace H : (spec_DrawHarderPuzzle.l0 k1 t347 (wrap64 (x7_1 + 1)) y364) = some r := by first | (rw [hy364]; with_reducible exact H) | (have H2_ := (Option.bind_some _ _).symm.trans H; rw [hy364]; with_reducible exact H2_) | (have H2_ := (Option.bind_some _ _).symm.trans H; with_reducible exact H2_) | with_reducible exact H | (rw [hy364]; exact H) | exact H
     have Ny364 := Aside0.mk hy364
     clear hy364
     have H' := Aside0.mk H
     clear H
     try go_wp2
     replace HO_361000 := Aside0.mk (Kd.R_drew HO_361000.out)
     replace BK337 := Aside0.mk (blk_drew BK337.out)
     replace BK360 := Aside0.mk (blk_drew BK360.out)
     replace HB := Aside0.mk (below_drew1 HB.out)
     refine start_ (n := 9) (S := fun w' => w'.cell? ⟨gb360, 0, none⟩ = some (u361000)) (ds := [8]) #[false, false, false, false, false, false, false, false, false] (by kernel_rfl) rfl rfl ((blk_cell BK360.out 0).trans rfl) (fun hHeld => ?_); refine with_tabW spec_DrawHarderPuzzle.tab9 spec_DrawHarderPuzzle.bits9 (fun HT_ HW_ => ?_)
     generalize wr.drew = w31 at HO_361000 BK337 BK360 HB hHeld ⊢
     refine pq_ 0 30 ?_
     refine pq_ 2 32 ?_
     refine pq_ 3 33 ?_
     refine take_ (i := 1) (N := some 31) (v := ?_) (a' := ?_) #[true, true, true, true, false, false, false, false, false] rfl rfl (take_ofW HT_.out HW_.out (by kernel_rfl)) (fun _ _ _ h => h) (Or.inl ⟨by rfl, ?_⟩) hHeld ?_ ?_
     rotate_left
     · intro w' s0
       go_simp
       with_reducible rfl
     rotate_left
     · simp only [Act.put, List.setIfInBounds_toArray, List.set_cons_zero, List.set_cons_succ, i64_w, i32_w]
       rfl
     refine one_ (i := 4) (N := some 34) #[true, true, true, true, true, false, false, false, false] rfl rfl (one_of HT_.out (by kernel_rfl)) (by decide) (fun K hK => ?_)
     refine goes_ Tryz.func69 (by kernel_rfl) rfl #[.int .i64 1, .int .i64 x7_1, .string t347] (by rfl) rfl rfl z12_2_ ?_
     with_reducible refine (spec_pzOf.calls k1 1 x7_1 t347 t361 t362 t363 _ A29.out).mono ?_
     rintro e w32 ⟨rfl, hb⟩
     refine ⟨_, rfl, ?_⟩
     replace HO_361000 := Aside0.mk (Kd.R_below zq15_0_ hb)
     replace BK337 := bb_ BK337 z12_1_ hb
     replace BK360 := bb_ BK360 (b_ BK360.out) hb
     replace HB := Aside0.mk (below_step z12_6_ hb)
     
     
     
     
     refine hK.out _ _ ((blk_cell BK360.out 0).trans rfl) (fun hHeld => ?_)
     clear hK K
     refine norm_ (a' := ?_) ?_ ?_
     rotate_left
     · show Act.put _ (some 34) _ = _
       simp only [Act.put, List.setIfInBounds_toArray, List.set_cons_zero, List.set_cons_succ, i64_w, i32_w]
       rfl
     refine one_ (i := 5) (N := some 35) #[true, true, true, true, true, true, false, false, false] rfl rfl (one_of HT_.out (by kernel_rfl)) (by decide) (fun K hK => ?_)
     refine value_ (w1 := ?_) (v := ?_) (by rfl) rfl ?_ ?_
     rotate_left 2
     · go_simp
       constructor
       · rfl
       rfl
     refine hK.out _ _ ((blk_cell (blk_alloc BK360.out _) 0).trans rfl) (fun hHeld => ?_)
     clear hK K
     refine norm_ (a' := ?_) ?_ ?_
     rotate_left
     · show Act.put _ (some 35) _ = _
       simp only [Act.put, List.setIfInBounds_toArray, List.set_cons_zero, List.set_cons_succ, i64_w, i32_w]
       rfl
     refine one_ (i := 6) (N := some 36) #[true, true, true, true, true, true, true, false, false] rfl rfl (one_of HT_.out (by kernel_rfl)) (by decide) (fun K hK => ?_)
     refine Kd.R_append_step k37 (w0 := w) w.heap.size (by rfl) (.tmp 31) (.tmp 35) 26 37 (.agg #[(.int .i64 0), (.int .i64 0), (.int .i64 0)]) 24 rfl Tryz.underlying26 info37 rfl (by decide) (by omega) u361000 x361000_1 (⟨t361, t362, t363⟩ : S37) [.int .i64 t361, .int .i64 t362, .int .i64 t363] (fun _ => True) (fun _ => False) rfl rfl ?aP (fun _ hk => hk.elim) ?aF ?aO ?aB ?aS ?aL ?_
     (case aP => exact k37_mkM _ _ _ (⟨t361, t362, t363⟩ : S37))
     (case aB => exact z12_6_)
     (case aF => exact (fun _ _ => trivial))
     (case aO => exact zq15_0_)
     (case aS => exact (below_size z12_6_))
     (case aL => have := LMc30.out; omega)
     intro v365 w33 ho hb hg hat
     rw [← Ny364.out] at ho
     replace BK337 := Aside0.mk (blk_grown (g := gb337) (o := .cells #[.slice none 0 0] 28 (0, 0)) z12_1_ hg (Kd.R_ne HO_361000.out BK337.out (by decide)))
     replace BK360 := Aside0.mk (blk_grown (g := gb360) (o := .cells #[u361000] 28 (0, 0)) (b_ BK360.out) hg (Kd.R_ne HO_361000.out BK360.out (by decide)))
     replace HB := Aside0.mk (hb)
     have HO366 := Aside0.mk (ho)
     clear HO_361000
     clear ho hb hg hat
     obtain ⟨Ao34, co34, eo34⟩ := Kd.R_slice HO366.out
     (first | subst eo34 | (injection eo34 with f1_ f2_ f3_; have f4_ := f1_.symm; have f5_ := f3_.symm; clear f1_ f2_ f3_; subst f4_; subst f5_))
     refine hK.out _ _ ((blk_cell BK360.out 0).trans rfl) (fun hHeld => ?_)
     clear hK K
     refine norm_ (a' := ?_) ?_ ?_
     rotate_left
     · show Act.put _ (some 36) _ = _
       simp only [Act.put, List.setIfInBounds_toArray, List.set_cons_zero, List.set_cons_succ, i64_w, i32_w]
       rfl
     refine pq_ 7 37 ?_
     refine last_ (i := 8) (N := none) #[true, true, true, true, true, true, true, true, true] rfl rfl (one_of HT_.out (by kernel_rfl)) (by decide) (fun K hK => ?_)
     have hs35 : w33.cell? ⟨gb360, 0, none⟩ = some (u361000) := (blk_cell BK360.out 0).trans rfl
     have hfs35 := blk_frozen BK360.out 0
     have hns35_0 := NB337_360.out
     have hms35_0 := NB360_337.out
     refine skip_ (w1 := ?_) (by rfl) rfl ?_ ?_
     rotate_left
     · go_simp
       rfl
     refine hK.out _ _ ?_
     clear hK K
     refine done_ (done_of HT_.out (by kernel_rfl)) ?_
     try go_wp2
     go_roundg k1
     case measure => have := HK1.out; omega
     case rel => exact ⟨(wrap64 (x7_1 + 1)), (y364), (.slice Ao34 y364.length co34), zV_, H', ⟨by have := HK1.out; omega⟩, ⟨by refine rr_ ?_; exact Kd.R_mono (Kd.R_far (p := ⟨gb360, 0, none⟩) (Kd.R_types HO366.out BK360.out (by decide)) (fun _ hk => hk.2) (.slice Ao34 y364.length co34)) (fun _ hk => trivial)⟩, ⟨by refine b_ ?_; refine blk_far ?_ NB337_360.out _; exact b_ BK337.out⟩, ⟨by refine b_ ?_; refine blk_put (cs := #[u361000]) ?_ 0 _ rfl; exact b_ BK360.out⟩, ⟨by repeat (first | (with_reducible first | exact HB.out | apply below_alloc | apply pw_below_drewN | apply below_drew1 | refine below_set ?_ GE337.out | refine below_set ?_ GE360.out) | exact HB.out)⟩⟩
   rw [if_neg c28] at H
   have c28b0 := decide_eq_false c28
   clear c28
   obtain rfl := Option.some.inj H
   have hnb36 := NB360_337.out
   have hnc36 := NB337_360.out
   have hcz37_0 : wr.cell? ⟨gb360, 0, none⟩ = some (u361000) := (blk_cell BK360.out 0).trans rfl
   have hfz37_0 := blk_frozen BK360.out 0
   obtain ⟨Ao38, co38, eo38⟩ := Kd.R_slice HO_361000.out
   subst eo38
   have hcz39_0 : wr.cell? ⟨gb337, 0, none⟩ = some (.slice none 0 0) := (blk_cell BK337.out 0).trans rfl
   have hfz39_0 := blk_frozen BK337.out 0
   go_wp2
   refine bodyPost_ret (results_cell_row rfl _ _ gb337 28 #[.slice Ao38 x361000_1.length co38] (0, 0) _ rfl z12_7_ Tryz.underlying28 rfl (by kernel_rfl)) rfl ?_
   exact ⟨_, by first | rfl | (simp [errW_none, errW_some] <;> rfl) | (simp [*, errW_none, errW_some] <;> rfl), by refine rr_ ?_; exact Kd.R_mono (Kd.R_far (p := ⟨gb337, 0, none⟩) (Kd.R_types HO_361000.out BK337.out (by decide)) (fun _ hk => hk.2) (.slice Ao38 x361000_1.length co38)) (fun _ hk => trivial), by repeat (first | (with_reducible first | exact HB.out | apply below_alloc | apply pw_below_drewN | apply below_drew1 | refine below_set ?_ GE337.out | refine below_set ?_ GE360.out) | exact HB.out)⟩

/-! ### strconv_Itoa: function 107 -/
def strconv_Itoa.f (a0 : Int) : Option ByteArray := if 0 ≤ a0 then (if a0 < 100 then some ⟨(Lib.decDigits a0.toNat).toArray⟩ else none) else none
theorem strconv_Itoa.calls (a0 : Int) (r : ByteArray) (w : World) (h : strconv_Itoa.f a0 = some r) :
 Calls Tryz.prog 107 #[.int .i64 a0] w fun e w' => e = .returned (.string r) ∧ Drawn0 w w' := by
 unfold strconv_Itoa.f at h
 by_cases h0 : 0 ≤ a0
 rotate_left
 · exact none_ (if_neg h0) h
 rw [if_pos h0] at h
 by_cases h1 : a0 < 100
 rotate_left
 · exact none_ (if_neg h1) h
 rw [if_pos h1] at h
 obtain rfl := Option.some.inj h
 obtain ⟨i, rfl⟩ : ∃ i : Nat, a0 = (i : Int) := ⟨a0.toNat, by omega⟩
 refine (Shelf.Itoa_small i (by omega) w).mono ?_
 rintro e w' ⟨rfl, rfl⟩
 exact ⟨by rw [Int.toNat_natCast], Drawn0.refl _⟩

/-! ### impl_solutions: function 80 -/
-- behind 14 107
def impl_solutions.digit (d : Int) : ByteArray := ⟨#[UInt8.ofNat (48 + d.toNat)]⟩
def impl_solutions.tick : Nat → Int → ByteArray → ByteArray
 | 0, _, t => t
 | i + 1, n, t => impl_solutions.tick i (n / 6) (impl_solutions.digit (n % 6) ++ t)
def impl_solutions.bad (k : Nat) (t : ByteArray) (x : S37) : Option Bool := (impl_Clue_fits.f k x.f0 x.f1 x.f2 t).map (!·)
def impl_solutions.go (k : Nat) (l : List S37) : Nat → Int → List ByteArray → Option (List ByteArray)
 | 0, _, out => some out
 | c + 1, n, out => (Fn.anyO (impl_solutions.bad k (impl_solutions.tick 4 n ByteArray.empty)) l).bind fun b => impl_solutions.go k l c (n + 1) (if b then out else out ++ [impl_solutions.tick 4 n ByteArray.empty])
def impl_solutions.f (k : Nat) (l0 : List S37) : Option (List ByteArray) := impl_solutions.go k l0 1296 0 []
theorem impl_solutions.go_mono (k : Nat) (l : List S37) : ∀ c n out, LeO (impl_solutions.go k l c n out) (impl_solutions.go (k + 1) l c n out)
 | 0, _, _ => LeO.refl _
 | c + 1, n, out => by
  unfold impl_solutions.go
  refine LeO.bind (fun r hr => Fn.anyO_le (fun x r hr => ?_) l r hr) (fun b => impl_solutions.go_mono k l c _ _)
  unfold impl_solutions.bad at hr ⊢
  obtain ⟨t, ht, h⟩ := Option.map_eq_some_iff.mp hr
  exact Option.map_eq_some_iff.mpr ⟨t, impl_Clue_fits.mono _ _ _ _ _ t ht, h⟩
theorem impl_solutions.mono : ∀ a0 k, LeO (impl_solutions.f k a0) (impl_solutions.f (k + 1) a0) := fun a0 k => impl_solutions.go_mono k a0 _ _ _
set_option maxHeartbeats 8000000 in
set_option maxRecDepth 100000 in
theorem impl_solutions_1.calls (k : Nat) (x : S37) (tk : ByteArray) (g : Nat) (r : Bool) (w : World) (hc : w.cell? ⟨g, 0, none⟩ = some (.string tk)) (h : impl_solutions.bad k tk x = some r) :
 Calls Tryz.prog 108 #[.agg #[.int .i64 x.f0, .int .i64 x.f1, .int .i64 x.f2], .pointer (some ⟨g, 0, none⟩)] w fun e w' => e = .returned (.bool r) ∧ Below w.heap.size w w' := by
 have hu26 := Tryz.underlying37
 have HB := Aside0.mk (Below.refl w.heap.size w)
 have HC := Aside0.mk hc
 obtain ⟨t, ht, h⟩ := Option.map_eq_some_iff.mp h
 subst h
 have HT := Aside0.mk ht
 clear hc ht
 go_enter Tryz.func108, Tryz.ntmps108
 go_wp2_with (first | (refine bx_ 2 #[.int .i64 x.f0, .int .i64 x.f1, .int .i64 x.f2] 37 ?_; intro gb160 hg w3 hbox hb; have HB1 := Aside0.mk (below_step HB.out hb); have hcc : w3.cell? ⟨g, 0, none⟩ = some (.string tk) := (hb.cell (World.block_lt_of_cell? w _ HC.out)).trans HC.out; clear hb hg; have hcz4_0 : w3.cell? ⟨gb160, 0, none⟩ = some (.int .i64 x.f0) := (blk_cell hbox 0).trans rfl; have hcz4_1 : w3.cell? ⟨gb160, 1, none⟩ = some (.int .i64 x.f1) := (blk_cell hbox 1).trans rfl; have hcz4_2 : w3.cell? ⟨gb160, 2, none⟩ = some (.int .i64 x.f2) := (blk_cell hbox 2).trans rfl; clear hbox) | (go_at_call 72; (with_reducible refine (impl_Clue_fits.calls k x.f0 x.f1 x.f2 tk t _ HT.out).mono ?_); rintro e w5 ⟨rfl, hb⟩; have HB2 := Aside0.mk (below_step HB1.out hb); clear hb))
 go_ret
 exact ⟨rfl, HB2.out⟩
def impl_solutions.T8 : Bool × List (List Nat × List Nat) := (true, [([], []), ([], []), ([0, 1], [0, 1]), ([2], [2]), ([], []), ([3, 4], [3, 4]), ([5, 3, 0, 1, 2, 3, 4, 5], [5])])
def impl_solutions.B8 : List Nat := [0, 0, 3, 7, 0, 31, 63]
theorem impl_solutions.tab8 : rtab .any (opsOf Tryz.f80 8) = impl_solutions.T8 := by kernel_rfl
theorem impl_solutions.bits8 : waitsOk impl_solutions.T8.2 impl_solutions.B8 = true := by kernel_rfl
theorem impl_solutions.succ_ (n : Nat) (h : n < 4611686018427387904) : Value.int .i64 (wrap64 ((n : Int) + 1)) = Value.int .i64 ((n + 1 : Nat) : Int) := by
 have : wrap64 ((n : Int) + 1) = ((n + 1 : Nat) : Int) := by simp [wrap64]; omega
 rw [this]
theorem impl_solutions.digit_size (d : Int) : (impl_solutions.digit d).size = 1 := rfl
theorem impl_solutions.digit_ok (n : Int) (h0 : 0 ≤ n % 6) (h1 : n % 6 < 6) : strconv_Itoa.f (n % 6) = some (impl_solutions.digit (n % 6)) := by
 unfold strconv_Itoa.f impl_solutions.digit
 rw [if_pos h0, if_pos (by omega), Lib.decDigits_one (by omega)]
set_option maxHeartbeats 8000000 in
set_option maxRecDepth 100000 in
theorem impl_solutions.calls (k : Nat) (A0 : Option Addr) (c0 : Nat) (l0 : List (S37)) (r : List ByteArray) (w : World) (hr0 : Kd.C k37 w A0 l0.length l0) (hc0 : l0.length ≤ c0) (h : impl_solutions.f k l0 = some r) :
 Calls Tryz.prog 80 #[.slice A0 l0.length c0] w fun e w' => ∃ v0_ : Value, e = .returned (v0_) ∧ Kd.R Kd.string 9 w' w.heap.size (fun _ => True) v0_ r ∧ Below w.heap.size w w' := by
 have HR0 := Aside0.mk hr0
 have HC0 := Aside0.mk hc0
 have HB := Aside0.mk (Below.refl w.heap.size w)
 have H := Aside0.mk h
 clear hr0 hc0 h
 go_enter Tryz.func80, Tryz.ntmps80
 go_wp2_with (first | ((with_reducible refine gate_dst (N := 7) rfl ?_); refine Kd.R_lit Kd.string _ 9 ?hg (N := 7) ?hd (xs := ([] : List ByteArray)) (inner := []) (ok := fun _ => True) (okp := fun _ => True) ?hr ?hp (fun _ hk => hk) trivial (Below.refl _ _) (Nat.le_refl _) (by simp) ?_; (case hd => rfl); (case hg => rfl); (case hr => exact zc15_11_); (case hp => exact (Reps.none _ _)); intro v123 w3 ho4 hb hg_ hnew_; clear hg_ hnew_; have HO := Aside0.mk ho4; have HB1 := Aside0.mk (below_step HB.out hb); clear ho4 hb HB))
 go_loopg [3, 15] 1297 (fun kq v3 v15 w' => ∃ (n : Nat) (out : List ByteArray), v15 = .int .i64 (n : Int) ∧ Aside0 (n + kq = 1297) ∧ Aside0 (out.length ≤ n) ∧ Aside0 (impl_solutions.go k l0 (1296 - n) (n : Int) out = some r) ∧ Aside0 (Kd.R Kd.string 9 w' w.heap.size (fun _ => True) v3 out) ∧ Aside0 (Below w.heap.size w w'))
 case atStart => exact ⟨0, [], rfl, ⟨by omega⟩, ⟨Nat.le_refl _⟩, H, HO, HB1⟩
 case round =>
  clear H HO HB1
  obtain ⟨n, out, rfl, HN, HL, HA, HO, HB⟩ := hrel
  by_cases c : n < 1296
  · have c1 : decide ((n : Int) < 1296) = true := decide_eq_true (by omega)
    have c2 : decide (n < 1296) = true := decide_eq_true c
    obtain ⟨b, hb0, hA⟩ : ∃ b, Fn.anyO (impl_solutions.bad k (impl_solutions.tick 4 (n : Int) ByteArray.empty)) l0 = some b ∧ impl_solutions.go k l0 (1296 - (n + 1)) ((n : Int) + 1) (if b then out else out ++ [impl_solutions.tick 4 (n : Int) ByteArray.empty]) = some r := by
     have h := HA.out
     rw [show 1296 - n = (1296 - (n + 1)) + 1 by omega] at h
     unfold impl_solutions.go at h
     exact Option.bind_eq_some_iff.mp h
    obtain ⟨T, hT⟩ : ∃ T, T = impl_solutions.tick 4 (n : Int) ByteArray.empty := ⟨_, rfl⟩
    rw [← hT] at hb0 hA
    have HT := Aside0.mk hT.symm
    have HQ := Aside0.mk hb0
    have HA2 := Aside0.mk hA
    have HC := Aside0.mk c
    clear HA hT hb0 hA c
    go_wp2
    have HO2 : Aside0 (Kd.R Kd.string 9 (wr.alloc (.cells #[.string ⟨#[]⟩] 9)) w.heap.size (fun k => k ≠ wr.heap.size) u3 out) := ⟨Kd.R_alloc (Kd.R_mono (Kd.R_elderB HO.out wr.heap.size (Nat.le_refl _)) (fun _ hk => hk.2)) _⟩
    have BK : Aside0 ((wr.alloc (.cells #[.string ⟨#[]⟩] 9)).heap[wr.heap.size]? = some (.cells #[.string ⟨#[]⟩] 9 (0, 0))) := ⟨by simp [World.alloc, -World.alloc_eq]⟩
    have HB2 : Aside0 (Below w.heap.size w (wr.alloc (.cells #[.string ⟨#[]⟩] 9))) := ⟨below_alloc HB.out _⟩
    have HG := Aside0.mk HB.out.size
    clear HO HB
    generalize (wr.alloc (.cells #[.string ⟨#[]⟩] 9)) = wa at HO2 BK HB2 ⊢
    generalize wr.heap.size = g at HO2 BK HG ⊢
    obtain ⟨nq, hnq⟩ : ∃ q, q = gk := ⟨_, rfl⟩
    subst hnq
    go_loopg [5, 18] 5 (fun kq v5 v18 w' => ∃ (i : Nat) (m : Int) (tk : ByteArray), v5 = .int .i64 m ∧ v18 = .int .i64 (i : Int) ∧ Aside0 (i + kq = 5) ∧ Aside0 (0 ≤ m ∧ m ≤ 1296) ∧ Aside0 (tk.size = i) ∧ Aside0 (impl_solutions.tick (4 - i) m tk = T) ∧ Aside0 (w'.heap[g]? = some (.cells #[.string tk] 9 (0, 0))) ∧ Aside0 (Kd.R Kd.string 9 w' w.heap.size (fun k => k ≠ g) u3 out) ∧ Aside0 (Below w.heap.size w w'))
    case atStart => exact ⟨0, (n : Int), ⟨#[]⟩, rfl, rfl, ⟨by omega⟩, ⟨by have := HC.out; omega⟩, ⟨rfl⟩, HT, BK, HO2, HB2⟩
    case round =>
     clear HT BK HO2 HB2
     obtain ⟨i, m, tk, rfl, rfl, HI, HM, HS, HT, BK, HO, HB⟩ := hrel
     by_cases d : i < 4
     · have d1 : decide ((i : Int) < 4) = true := decide_eq_true (by omega)
       have d2 : decide (i < 4) = true := decide_eq_true d
       have hM := HM.out
       have hrem : Int.tmod m 6 = m % 6 := Int.tmod_eq_emod_of_nonneg hM.1
       have hquo : Int.tdiv m 6 = m / 6 := Int.tdiv_eq_ediv_of_nonneg hM.1
       obtain ⟨q, hq⟩ : ∃ q : Int, m / 6 = q := ⟨_, rfl⟩
       obtain ⟨e, he⟩ : ∃ e : Int, m % 6 = e := ⟨_, rfl⟩
       have hw : wrap64 q = q := by simp [wrap64]; omega
       have HE := Aside0.mk (show strconv_Itoa.f e = some (impl_solutions.digit e) by rw [← he]; exact impl_solutions.digit_ok m (by omega) (by omega))
       have hT : impl_solutions.tick (4 - (i + 1)) q (impl_solutions.digit e ++ tk) = T := by
        have h := HT.out
        rw [show 4 - i = (4 - (i + 1)) + 1 by omega] at h
        unfold impl_solutions.tick at h
        rw [hq, he] at h
        exact h
       have HT2 := Aside0.mk hT
       have HQ0 := Aside0.mk (show 0 ≤ q ∧ q ≤ 1296 by omega)
       rw [hq] at hquo
       rw [he] at hrem
       obtain ⟨dg, hdg⟩ : ∃ dg, impl_solutions.digit e = dg := ⟨_, rfl⟩
       have hds : dg.size = 1 := by rw [← hdg]; rfl
       rw [hdg] at HE HT2
       have hsz : dg.size + tk.size ≤ 9223372036854775807 := by rw [hds, HS.out]; omega
       have z0 := eq_true hsz
       have z1 : decide (dg.size + tk.size ≤ 9223372036854775807) = true := decide_eq_true hsz
       have z2 : (9223372036854775807 < dg.size + tk.size) = False := eq_false (Nat.not_lt.2 hsz)
       have HDS := Aside0.mk (show (dg ++ tk).size = i + 1 by rw [ByteArray.size_append, hds, HS.out]; omega)
       have hcell := blk_cell BK.out 0
       have hfz := blk_frozen BK.out 0
       have HD := Aside0.mk d
       clear hM HT hT hq he hdg hds hsz HM HS d
       go_wp2
       have n0_ := Aside0.mk (Kd.R_drew HO.out)
       have n1_ := Aside0.mk (blk_drew BK.out)
       have n2_ := Aside0.mk (below_drew1 HB.out)
       clear HO BK HB
       have HO := n0_
       have BK := n1_
       have HB := n2_
       clear n0_ n1_ n2_ hcell hfz
       have hcell := blk_cell BK.out 0
       refine start_ (n := 7) (S := fun w' => w'.cell? ⟨g, 0, none⟩ = some (.string tk)) (ds := [6]) #[false, false, false, false, false, false, false] (by kernel_rfl) rfl rfl hcell (fun hHeld => ?_); refine with_tabW impl_solutions.tab8 impl_solutions.bits8 (fun HT_ HW_ => ?_)
       generalize wr.drew = w8 at HO BK HB hcell hHeld ⊢
       refine pq_ 0 20 ?_
       refine pq_ 1 21 ?_
       refine pq_ 2 22 ?_
       refine take_ (i := 4) (N := some 24) (v := ?_) (a' := ?_) #[true, true, true, false, true, false, false] rfl rfl (take_ofW HT_.out HW_.out (by kernel_rfl)) (fun _ _ _ h => h) (Or.inl ⟨by rfl, ?_⟩) hHeld ?_ ?_
       rotate_left
       · rintro w' s0
         go_simp
         with_reducible rfl
       rotate_left
       · simp only [Act.put, List.setIfInBounds_toArray, List.set_cons_zero, List.set_cons_succ, i64_w, i32_w]
         rfl
       refine one_ (i := 3) (N := some 23) #[true, true, true, true, true, false, false] rfl rfl (one_of HT_.out (by kernel_rfl)) (by decide) (fun K hK => ?_)
       refine goes_ Tryz.func107 (by kernel_rfl) rfl #[.int .i64 e] (by rfl) rfl rfl (by (try simp only [List.map_toArray, List.map_cons, List.map_nil]); first | done | rfl) ?_
       with_reducible refine (strconv_Itoa.calls e dg _ HE.out).mono ?_
       rintro e' w' ⟨rfl, ⟨nd, rfl⟩⟩
       refine ⟨_, rfl, ?_⟩
       have n0_ := Aside0.mk (Kd.R_drewN HO.out nd)
       have n1_ := Aside0.mk (blk_drewN BK.out nd)
       have n2_ := Aside0.mk (pw_below_drewN HB.out nd)
       clear HO BK HB
       have HO := n0_
       have BK := n1_
       have HB := n2_
       clear n0_ n1_ n2_
       refine hK.out _ _ hHeld (fun hHeld => ?_)
       clear hK K
       refine norm_ (a' := ?_) ?_ ?_
       rotate_left
       · show Act.put _ (some 23) _ = _
         simp only [Act.put, List.setIfInBounds_toArray, List.set_cons_zero, List.set_cons_succ, i64_w, i32_w]
         rfl
       refine pq_ 5 25 ?_
       have hcell2 := blk_cell BK.out 0
       have hfz2 := blk_frozen BK.out 0
       refine last_ (i := 6) (N := none) #[true, true, true, true, true, true, true] rfl rfl (one_of HT_.out (by kernel_rfl)) (by decide) (fun K hK => ?_)
       refine skip_ (w1 := ?_) (by rfl) rfl ?_ ?_
       rotate_left
       · go_simp
         rfl
       refine hK.out _ _ ?_
       clear hK K
       refine done_ (done_of HT_.out (by kernel_rfl)) ?_
       try go_wp2
       go_roundg (gk - 1)
       case measure => have := HI.out; have := HD.out; omega
       case rel =>
        exact ⟨i + 1, q, dg ++ tk, by first | rfl | (simp [*]; done), impl_solutions.succ_ i (by have := HD.out; omega), ⟨by have := HI.out; have := HD.out; omega⟩, HQ0, HDS, HT2, ⟨blk_put BK.out 0 _ rfl⟩, ⟨Kd.R_far HO.out (fun k hk => hk) _⟩, ⟨below_set HB.out HG.out⟩⟩
     have d1 : decide ((i : Int) < 4) = false := decide_eq_false (by omega)
     have d2 : decide (i < 4) = false := decide_eq_false d
     have hi : tk = T := by
      have h := HT.out
      rw [show 4 - i = 0 by have := HI.out; omega] at h
      exact h
     subst hi
     have hcell := blk_cell BK.out 0
     have HCL := Aside0.mk hcell
     have HP : Aside0 (∀ (x : S37) (t : Bool) (W : World), impl_solutions.bad k tk x = some t → Below wr.heap.size wr W → Calls Tryz.prog 108 (#[.agg #[.int .i64 x.f0, .int .i64 x.f1, .int .i64 x.f2]] ++ #[.pointer (some ⟨g, 0, none⟩)]) W fun e W' => e = .returned (.bool t) ∧ Below W.heap.size W W') := ⟨fun x t W hx hb => impl_solutions_1.calls k x tk g t W ((hb.cell (World.block_lt_of_cell? wr _ HCL.out)).trans HCL.out) hx⟩
     have HRL := Aside0.mk (Kd.C_below HR0.out HB.out)
     cases b with
     | true =>
      go_wp2_with (first | (go_at_call 75; (with_reducible refine (slices_ContainsFunc_clue (impl_solutions.bad k tk) 108 _ #[.pointer (some ⟨g, 0, none⟩)] A0 c0 l0 true _ HRL.out HC0.out Tryz.func108 (by kernel_rfl) rfl HP.out HQ.out).mono ?_); rintro e w1 ⟨rfl, hb⟩; have HB2 := Aside0.mk (below_step HB.out hb); have HO2 := Aside0.mk (Kd.R_mono (Kd.R_below HO.out hb) (ok' := fun _ => True) (fun _ _ => trivial)); clear hb))
      go_roundg (nq - 1)
      case measure => have := HN.out; have := HC.out; omega
      case rel => exact ⟨n + 1, out, impl_solutions.succ_ n (by have := HC.out; omega), ⟨by have := HN.out; have := HC.out; omega⟩, ⟨by have := HL.out; omega⟩, HA2, HO2, HB2⟩
     | false =>
      go_wp2_with (first | (go_at_call 75; (with_reducible refine (slices_ContainsFunc_clue (impl_solutions.bad k tk) 108 _ #[.pointer (some ⟨g, 0, none⟩)] A0 c0 l0 false _ HRL.out HC0.out Tryz.func108 (by kernel_rfl) rfl HP.out HQ.out).mono ?_); rintro e w1 ⟨rfl, hb⟩; have HB2 := Aside0.mk (below_step HB.out hb); have hcell2 := (hb.cell (World.block_lt_of_cell? wr _ HCL.out)).trans HCL.out; have HO2 := Aside0.mk (Kd.R_mono (Kd.R_below HO.out hb) (ok' := fun _ => True) (fun _ _ => trivial)); clear hb) | ((with_reducible refine gate_builtin (b := .append) (xs := #[.tmp 34, .tmp 36]) rfl ?_); at_builtin; refine Kd.R_append Kd.string (w0 := w) w.heap.size rfl (.tmp 34) (.tmp 36) 45 9 (.string ByteArray.empty) 16 rfl Tryz.underlying45 info9 rfl (by decide) (by omega) u3 out tk [.string tk] (fun _ => True) (fun _ => False) rfl rfl ?aP (fun _ hk => hk.elim) ?aF ?aO ?aB ?aS ?aL ?_; (case aP => exact rfl); (case aF => exact fun _ _ => trivial); (case aO => exact HO2.out); (case aB => exact HB2.out); (case aS => exact HB2.out.size); (case aL => have := HL.out; have := HC.out; omega); intro v1 w4 ho hb hg hat; have HO3 := Aside0.mk ho; have HB3 := Aside0.mk hb; clear ho hb hg hat HB2 HO2))
      go_roundg (nq - 1)
      case measure => have := HN.out; have := HC.out; omega
      case rel => exact ⟨n + 1, out ++ [tk], impl_solutions.succ_ n (by have := HC.out; omega), ⟨by have := HN.out; have := HC.out; omega⟩, ⟨by have := HL.out; simp; omega⟩, HA2, HO3, HB3⟩
  have c1 : decide ((n : Int) < 1296) = false := decide_eq_false (by omega)
  have c2 : decide (n < 1296) = false := decide_eq_false c
  have hr : out = r := by
   have h := HA.out
   rw [show 1296 - n = 0 by omega] at h
   exact Option.some.inj h
  subst hr
  go_wp2
  go_ret
  exact ⟨_, rfl, HO.out, HB.out⟩

/-! ### impl_Solutions: function 19 -/
def impl_Solutions.f (k : Nat) (l0_0 : List (S37)) : Option (List ByteArray × Bool) := (impl_IsPuzzle.f k l0_0).bind fun t368 => (if t368 = true then ((impl_solutions.f k l0_0).bind fun t369 => (some (t369, true))) else (some (([] : List ByteArray), false)))
theorem impl_Solutions.mono : ∀ a0 k, LeO (impl_Solutions.f k a0) (impl_Solutions.f (k + 1) a0) := by
 intro a0 k
 unfold impl_Solutions.f
 have m1_ := @impl_IsPuzzle.mono
 have m2_ := @impl_solutions.mono
 exact zM_
set_option maxHeartbeats 8000000 in
set_option maxRecDepth 100000 in
theorem impl_Solutions.calls (k : Nat) (A0_0 : Option Addr) (c0_0 : Nat) (l0_0 : List (S37)) (r1 : List ByteArray) (r2 : Bool) (w : World) (hr0_0 : Kd.C k37 w A0_0 l0_0.length l0_0) (hc0_0 : l0_0.length ≤ c0_0) (h : impl_Solutions.f k l0_0 = some (r1, r2)) :
 Calls Tryz.prog 19 #[.agg #[.slice A0_0 l0_0.length c0_0]] w fun e w' => ∃ v0_ : Value, e = .returned (.tuple #[v0_, .bool r2]) ∧ Kd.R Kd.string 9 w' w.heap.size (fun _ => True) v0_ r1 ∧ Below w.heap.size w w' := by
 have hu28 := Tryz.underlying28
 have HR0_0 := Aside0.mk hr0_0
 have HC0_0 := Aside0.mk hc0_0
 clear hr0_0 hc0_0
 have HB := Aside0.mk (Below.refl w.heap.size w)
 unfold impl_Solutions.f at h
 have H := h
 clear h
 replace H := bd_ H; obtain ⟨t368, A2, H⟩ := H
 by_cases c3 : t368 = true
 · subst c3
   rw [if_pos rfl] at H
   replace H := bd_ H; obtain ⟨t369, A4, H⟩ := H
   simp only [Option.some.injEq, Prod.mk.injEq] at H
   obtain ⟨rfl, rfl⟩ := H
   go_enter Tryz.func19, Tryz.ntmps19
   go_wp2_with (first | (refine bx_ 1 #[.slice A0_0 l0_0.length c0_0] 28 ?_; intro gb367 hg w5 hbox hb; have BK367 := Aside0.mk (hbox); have GW367 : Aside0 (w.heap.size ≤ gb367) := bs_ hg zB_; have GE367 := GW367; replace HB := Aside0.mk (below_step zB_ hb); clear hb hbox hg; have hcz6_0 : w5.cell? ⟨gb367, 0, none⟩ = some (.slice A0_0 l0_0.length c0_0) := (blk_cell BK367.out 0).trans rfl; have hfz6_0 := blk_frozen BK367.out 0) | ((with_reducible refine gc_ 14 rfl ?_); refine gL_ 5 Tryz.func14 #[.agg #[.slice A0_0 l0_0.length c0_0]] ?_; (with_reducible refine (impl_IsPuzzle.calls k _ _ l0_0 true _ ?side1 ?side2 A2.out).mono ?_); (case side1 => exact zc15_5_); (case side2 => exact HC0_0.out); rintro e w7 ⟨rfl, hb⟩; refine ⟨_, rfl, ?_⟩; replace BK367 := bb_ BK367 z12_9_ hb; replace HB := Aside0.mk (below_step z12_5_ hb); have hcz8_0 : w7.cell? ⟨gb367, 0, none⟩ = some (.slice A0_0 l0_0.length c0_0) := (blk_cell BK367.out 0).trans rfl; have hfz8_0 := blk_frozen BK367.out 0) | ((with_reducible refine gc_ 80 rfl ?_); refine gL_ 9 Tryz.func80 #[.slice A0_0 l0_0.length c0_0] ?_; (with_reducible refine (impl_solutions.calls k _ _ l0_0 t369 _ ?side1 ?side2 A4.out).mono ?_); (case side1 => exact zc15_5_); (case side2 => exact HC0_0.out); rintro e w9 ⟨v370, rfl, ho0, hb⟩; refine ⟨_, rfl, ?_⟩; have HO371 := Aside0.mk (Kd.R_lower ho0 (below_size z12_5_)); replace BK367 := bb_ BK367 z12_9_ hb; replace HB := Aside0.mk (below_step z12_5_ hb)))
   go_ret2
   exact ⟨_, by first | rfl | (simp [errW_none, errW_some] <;> rfl) | (simp [*, errW_none, errW_some] <;> rfl), by exact rr_ HO371.out, by repeat (first | (with_reducible first | exact HB.out | apply below_alloc | apply pw_below_drewN | apply below_drew1 | refine below_set ?_ GE367.out) | exact HB.out)⟩
 replace H := bf_ c3 H; obtain ⟨rfl, H⟩ := H
 simp only [Option.some.injEq, Prod.mk.injEq] at H
 obtain ⟨rfl, rfl⟩ := H
 go_enter Tryz.func19, Tryz.ntmps19
 go_wp2_with (first | (refine bx_ 1 #[.slice A0_0 l0_0.length c0_0] 28 ?_; intro gb367 hg w10 hbox hb; have BK367 := Aside0.mk (hbox); have GW367 : Aside0 (w.heap.size ≤ gb367) := bs_ hg zB_; have GE367 := GW367; replace HB := Aside0.mk (below_step zB_ hb); clear hb hbox hg; have hcz11_0 : w10.cell? ⟨gb367, 0, none⟩ = some (.slice A0_0 l0_0.length c0_0) := (blk_cell BK367.out 0).trans rfl; have hfz11_0 := blk_frozen BK367.out 0) | ((with_reducible refine gc_ 14 rfl ?_); refine gL_ 5 Tryz.func14 #[.agg #[.slice A0_0 l0_0.length c0_0]] ?_; (with_reducible refine (impl_IsPuzzle.calls k _ _ l0_0 false _ ?side1 ?side2 A2.out).mono ?_); (case side1 => exact zc15_5_); (case side2 => exact HC0_0.out); rintro e w12 ⟨rfl, hb⟩; refine ⟨_, rfl, ?_⟩; replace BK367 := bb_ BK367 z12_9_ hb; replace HB := Aside0.mk (below_step z12_5_ hb)))
 go_ret2
 exact ⟨_, by first | rfl | (simp [errW_none, errW_some] <;> rfl) | (simp [*, errW_none, errW_some] <;> rfl), by first | exact Kd.R_nil _ _ _ _ _ | exact Kd.N_nil _ _ _ _ _ | exact Kd.V_nil _ _ _ _ _ | exact Kd.Q_nil _ _ _ _ _ | exact Kd.S_nil _ _ _ _ _, by repeat (first | (with_reducible first | exact HB.out | apply below_alloc | apply pw_below_drewN | apply below_drew1 | refine below_set ?_ GE367.out) | exact HB.out)⟩

/-! ### impl_CountSolutions: function 35 -/
def impl_CountSolutions.f (k : Nat) (l0_0 : List (S37)) : Option (Int × Bool) := (impl_Solutions.f k l0_0).bind fun bt373 => (some ((bt373.1.length : Int), bt373.2))
theorem impl_CountSolutions.mono : ∀ a0 k, LeO (impl_CountSolutions.f k a0) (impl_CountSolutions.f (k + 1) a0) := by
 intro a0 k
 unfold impl_CountSolutions.f
 have m1_ := @impl_Solutions.mono
 exact zM_
set_option maxHeartbeats 8000000 in
set_option maxRecDepth 100000 in
theorem impl_CountSolutions.calls (k : Nat) (A0_0 : Option Addr) (c0_0 : Nat) (l0_0 : List (S37)) (r1 : Int) (r2 : Bool) (w : World) (hr0_0 : Kd.C k37 w A0_0 l0_0.length l0_0) (hc0_0 : l0_0.length ≤ c0_0) (h : impl_CountSolutions.f k l0_0 = some (r1, r2)) :
 Calls Tryz.prog 35 #[.agg #[.slice A0_0 l0_0.length c0_0]] w fun e w' => e = .returned (.tuple #[.int .i64 r1, .bool r2]) ∧ Below w.heap.size w w' := by
 have hu28 := Tryz.underlying28
 have HR0_0 := Aside0.mk hr0_0
 have HC0_0 := Aside0.mk hc0_0
 clear hr0_0 hc0_0
 have HB := Aside0.mk (Below.refl w.heap.size w)
 unfold impl_CountSolutions.f at h
 have H := h
 clear h
 replace H := bd_ H; obtain ⟨⟨t373, t376⟩, A2, H⟩ := H
 dsimp only at H
 simp only [Option.some.injEq, Prod.mk.injEq] at H
 obtain ⟨rfl, rfl⟩ := H
 go_enter Tryz.func35, Tryz.ntmps35
 go_wp2_with (first | (refine bx_ 1 #[.slice A0_0 l0_0.length c0_0] 28 ?_; intro gb372 hg w3 hbox hb; have BK372 := Aside0.mk (hbox); have GW372 : Aside0 (w.heap.size ≤ gb372) := bs_ hg zB_; have GE372 := GW372; replace HB := Aside0.mk (below_step zB_ hb); clear hb hbox hg; have hcz4_0 : w3.cell? ⟨gb372, 0, none⟩ = some (.slice A0_0 l0_0.length c0_0) := (blk_cell BK372.out 0).trans rfl; have hfz4_0 := blk_frozen BK372.out 0) | ((with_reducible refine gc_ 19 rfl ?_); refine gL_ 8 Tryz.func19 #[.agg #[.slice A0_0 l0_0.length c0_0]] ?_; (with_reducible refine (impl_Solutions.calls k _ _ l0_0 t373 t376 _ ?side1 ?side2 A2.out).mono ?_); (case side1 => exact zc15_5_); (case side2 => exact HC0_0.out); rintro e w5 ⟨v374, rfl, ho0, hb⟩; refine ⟨_, rfl, ?_⟩; have HO375 := Aside0.mk (Kd.R_lower ho0 (below_size (by repeat (first | (with_reducible first | exact HB.out | apply below_alloc | apply pw_below_drewN | apply below_drew1 | refine below_set ?_ GE372.out) | exact HB.out)))); replace BK372 := bb_ BK372 (b_ BK372.out) hb; replace HB := Aside0.mk (below_step (by repeat (first | (with_reducible first | exact HB.out | apply below_alloc | apply pw_below_drewN | apply below_drew1 | refine below_set ?_ GE372.out) | exact HB.out)) hb); obtain ⟨Ao6, co6, eo6⟩ := Kd.R_slice HO375.out; subst eo6))
 go_ret2
 exact ⟨zR_, by repeat (first | (with_reducible first | exact HB.out | apply below_alloc | apply pw_below_drewN | apply below_drew1 | refine below_set ?_ GE372.out) | exact HB.out)⟩

/-! ### impl_IsSolved: function 18 -/
def impl_IsSolved.f (k : Nat) (l0_0 : List (S37)) : Option (Bool × Bool) := (impl_CountSolutions.f k l0_0).bind fun bt378 => (some ((bt378.1 == 1), bt378.2))
theorem impl_IsSolved.mono : ∀ a0 k, LeO (impl_IsSolved.f k a0) (impl_IsSolved.f (k + 1) a0) := by
 intro a0 k
 unfold impl_IsSolved.f
 have m1_ := @impl_CountSolutions.mono
 exact zM_
set_option maxHeartbeats 8000000 in
set_option maxRecDepth 100000 in
theorem impl_IsSolved.calls (k : Nat) (A0_0 : Option Addr) (c0_0 : Nat) (l0_0 : List (S37)) (r1 : Bool) (r2 : Bool) (w : World) (hr0_0 : Kd.C k37 w A0_0 l0_0.length l0_0) (hc0_0 : l0_0.length ≤ c0_0) (h : impl_IsSolved.f k l0_0 = some (r1, r2)) :
 Calls Tryz.prog 18 #[.agg #[.slice A0_0 l0_0.length c0_0]] w fun e w' => e = .returned (.tuple #[.bool r1, .bool r2]) ∧ Below w.heap.size w w' := by
 have hu28 := Tryz.underlying28
 have HR0_0 := Aside0.mk hr0_0
 have HC0_0 := Aside0.mk hc0_0
 clear hr0_0 hc0_0
 have HB := Aside0.mk (Below.refl w.heap.size w)
 unfold impl_IsSolved.f at h
 have H := h
 clear h
 replace H := bd_ H; obtain ⟨⟨t378, t379⟩, A2, H⟩ := H
 dsimp only at H
 simp only [Option.some.injEq, Prod.mk.injEq] at H
 obtain ⟨rfl, rfl⟩ := H
 go_enter Tryz.func18, Tryz.ntmps18
 go_wp2_with (first | (refine bx_ 1 #[.slice A0_0 l0_0.length c0_0] 28 ?_; intro gb377 hg w3 hbox hb; have BK377 := Aside0.mk (hbox); have GW377 : Aside0 (w.heap.size ≤ gb377) := bs_ hg zB_; have GE377 := GW377; replace HB := Aside0.mk (below_step zB_ hb); clear hb hbox hg; have hcz4_0 : w3.cell? ⟨gb377, 0, none⟩ = some (.slice A0_0 l0_0.length c0_0) := (blk_cell BK377.out 0).trans rfl; have hfz4_0 := blk_frozen BK377.out 0) | ((with_reducible refine gc_ 35 rfl ?_); refine gL_ 8 Tryz.func35 #[.agg #[.slice A0_0 l0_0.length c0_0]] ?_; (with_reducible refine (impl_CountSolutions.calls k _ _ l0_0 t378 t379 _ ?side1 ?side2 A2.out).mono ?_); (case side1 => exact zc15_5_); (case side2 => exact HC0_0.out); rintro e w5 ⟨rfl, hb⟩; refine ⟨_, rfl, ?_⟩; replace BK377 := bb_ BK377 (b_ BK377.out) hb; replace HB := Aside0.mk (below_step (by repeat (first | (with_reducible first | exact HB.out | apply below_alloc | apply pw_below_drewN | apply below_drew1 | refine below_set ?_ GE377.out) | exact HB.out)) hb)))
 go_ret2
 exact ⟨zR_, by repeat (first | (with_reducible first | exact HB.out | apply below_alloc | apply pw_below_drewN | apply below_drew1 | refine below_set ?_ GE377.out) | exact HB.out)⟩

/-! ### slices_Clone_clue: function 78 -/
def slices_Clone_clue.f (l0 : List S37) : Option (List S37) := if l0.length < 5864062014805 then some l0 else none
set_option maxHeartbeats 8000000 in
set_option maxRecDepth 100000 in
theorem slices_Clone_clue.calls (A0 : Option Addr) (c0 : Nat) (l0 : List (S37)) (r : List (S37)) (w : World) (hr0 : Kd.C k37 w A0 l0.length l0) (hc0 : l0.length ≤ c0) (h : slices_Clone_clue.f l0 = some r) :
 Calls Tryz.prog 78 #[.slice A0 l0.length c0] w fun e w' => ∃ v0_ : Value, e = .returned (v0_) ∧ Kd.R k37 37 w' w.heap.size (fun _ => True) v0_ r ∧ Below w.heap.size w w' := by
 have HR0 := Aside0.mk hr0
 have HC0 := Aside0.mk hc0
 have HB := Aside0.mk (Below.refl w.heap.size w)
 have heq := fun W => Lib.run_eql_slice_nil (P := Tryz.prog) W 26 37 A0 l0.length c0 0 0 Tryz.underlying26
 unfold slices_Clone_clue.f at h
 by_cases hlim : l0.length < 5864062014805
 rotate_left
 · exact none_ (if_neg hlim) h
 rw [if_pos hlim] at h
 obtain rfl := Option.some.inj h
 have LM := Aside0.mk hlim
 clear h hlim
 cases A0 with
 | none =>
  have hl : l0 = [] := by
   have h3 := hr0.2.2
   have : ¬ 0 < l0.length := fun hp => by obtain ⟨ad, e, _⟩ := h3 hp; cases e
   exact List.eq_nil_of_length_eq_zero (by omega)
  have HL := Aside0.mk hl
  clear hl hr0 hc0
  simp only [Option.isNone_none] at heq
  go_enter Tryz.func78, Tryz.ntmps78
  go_wp2
  go_ret
  exact ⟨_, rfl, by rw [HL.out]; exact Kd.R_nil _ _ _ _ _, HB.out⟩
 | some a0 =>
  clear hr0 hc0
  simp only [Option.isNone_some] at heq
  obtain ⟨y101, hy101⟩ : ∃ y_ : List (S37), y_ = (([] : List (S37))) := ⟨_, rfl⟩
  have Ny101 := Aside0.mk hy101
  have LMc2 := Aside0.mk (show y101.length + l0.length < 5864062014805 by rw [hy101]; simpa using LM.out)
  obtain ⟨y104, hy104⟩ : ∃ y_ : List (S37), y_ = (y101 ++ l0) := ⟨_, rfl⟩
  have Ny104 := Aside0.mk hy104
  have NL := Aside0.mk (show y104 = l0 by rw [hy104, hy101]; rfl)
  clear hy101 hy104
  go_enter Tryz.func78, Tryz.ntmps78
  go_wp2_with (first | ((with_reducible refine gate_dst (N := 5) rfl ?_); refine Kd.R_lit k37 _ 37 ?hg (N := 5) ?hd (xs := ([] : List (S37))) (inner := []) (ok := fun _ => True) (okp := fun _ => True) ?hr ?hp (fun _ hk => hk) trivial (Below.refl _ _) (Nat.le_refl _) (by simp) ?_; (case hd => rfl); (case hg => rfl); (case hr => exact zc15_11_); (case hp => exact (Reps.none _ _)); intro v102 w3 ho4 hb hg_ hnew_; clear hg_ hnew_; (first | rw [← Ny101.out] at ho4 | (simp only [Int.reduceToNat] at ho4; rw [← Ny101.out] at ho4)); have HO103 := Aside0.mk (Kd.R_lower ho4 (below_size zB_)); replace HB := Aside0.mk (below_step zB_ hb); clear hb ho4) | ((with_reducible refine gate_builtin (b := .append) (xs := #[.tmp 5, .tmp 6]) rfl ?_); at_builtin; refine Kd.R_append_rows k37 (w0 := w) w.heap.size rfl (.tmp 5) (.tmp 6) 26 37 (.agg #[(.int .i64 0), (.int .i64 0), (.int .i64 0)]) 24 rfl Tryz.underlying26 info37 rfl (by decide) (by omega) v102 y101 l0 _ _ _ (fun _ => True) (fun _ => False) rfl rfl ?aO ?aR (fun _ _ h => h) (fun _ h => h.elim) ?aF ?aB ?aS ?aL ?_; (case aR => repeat (first | exact (Kd.C_below HR0.out HB.out) | (with_reducible refine Kd.C_alloc ?_ _) | (with_reducible refine Kd.C_drewN ?_ _) | (with_reducible refine Kd.C_drew ?_))); (case aB => exact zB_); (case aF => exact (fun _ _ => trivial)); (case aO => exact (rr_ HO103.out)); (case aS => exact (below_size zB_)); (case aL => have := LMc2.out; omega); intro v105 w5 ho hb hg hat; rw [← Ny104.out] at ho; replace HB := Aside0.mk (hb); have HO106 := Aside0.mk (ho); clear HO103; clear ho hb hg hat))
  go_ret
  exact ⟨_, rfl, by refine rr_ ?_; rw [← NL.out]; exact HO106.out, zB_⟩

-- NOT PRINTED: function 106 (impl_Clue_106)

/-! ### impl_dropped: function 79 -/
set_option maxHeartbeats 8000000 in
set_option maxRecDepth 100000 in
theorem slices_Delete_clue (l : List S37) (k : Nat) (hk : k < l.length) (v : Value) (w0 w : World) (hB : Below w0.heap.size w0 w) (ho : Kd.R k37 37 w w0.heap.size (fun _ => True) v l) :
 Calls Tryz.prog 106 #[v, .int .i64 (k : Int), .int .i64 ((k : Int) + 1)] w fun e w' => ∃ v' : Value, e = .returned v' ∧ Kd.R k37 37 w' w0.heap.size (fun _ => True) v' (l.eraseIdx k) ∧ Below w0.heap.size w0 w' := by
 obtain ⟨g, c, rfl, hbase, hgw, _⟩ := Kd.R_form ho (by omega)
 obtain ⟨_, hnc, _⟩ := Kd.R_reads' ho
 have hcm : c ≤ 9223372036854775807 := by
  obtain ⟨_, inner, hown, _⟩ := ho
  rcases hown.2 with ⟨hv, _⟩ | ⟨g', cap', cur, hv, _, _, _, hcm, _⟩
  · cases hv
  injection hv with _ _ hc
  subst hc
  exact hcm
 obtain ⟨n, hn⟩ : ∃ n, n = l.length := ⟨_, rfl⟩
 rw [← hn] at ho hk hnc ⊢
 have HO := Aside0.mk ho
 have HB := Aside0.mk hB
 have HN := Aside0.mk hn
 have HBS := Aside0.mk hbase
 obtain ⟨i0, hi0, _, hsz0, _⟩ := info_parts info37
 obtain ⟨v1, hs1⟩ := Fn.cut3 (P := Tryz.prog) 26 37 .i64 .i64 .i64 Tryz.underlying26 hi0 (some ⟨g, 0, none⟩) n c (k : Int) ((k : Int) + 1) (n : Int) (by omega) (by omega) (by omega) (by omega)
 have hs2 := cut_to (P := Tryz.prog) 26 37 .i64 Tryz.underlying26 hi0 (some ⟨g, 0, none⟩) n c (k : Int) (by omega) (by omega) hnc
 have hs3 := cut_from (P := Tryz.prog) 26 37 .i64 Tryz.underlying26 hi0 3 hsz0 (some ⟨g, 0, none⟩) n c ((k : Int) + 1) (by omega) (by omega)
 have hs4 := Fn.cut_cap (P := Tryz.prog) 26 37 .i64 .i64 Tryz.underlying26 hi0 3 hsz0 g (n - 1) c ((n - 1 : Nat) : Int) (n : Int) (by omega) (by omega) (by omega) (by omega)
 have ek : ((k : Int) + 1).toNat = k + 1 := by omega
 have en : ((n : Int)).toNat - ((n - 1 : Nat) : Int).toNat = 1 := by omega
 rw [ek] at hs3
 rw [en] at hs4
 simp only [Int.toNat_natCast] at hs2 hs4
 obtain ⟨A3, hA3⟩ : ∃ A3, A3 = (if c = k + 1 then (some (⟨g, 0, none⟩ : Addr)) else (some (⟨g, 0, none⟩ : Addr)).map (·.add ((k + 1) * 3))) := ⟨_, rfl⟩
 rw [← hA3] at hs3
 have HA3 := Aside0.mk hA3
 have HI := Aside0.mk (show (Tryz.prog.info? 37).map (·.size) = some (k37).sz by rw [hi0]; simp [hsz0]; rfl)
 have HK := Aside0.mk hk
 have HC := Aside0.mk (show n - 1 < c by omega)
 have hne : ((k : Int) == (k : Int) + 1) = false := by simp; omega
 have hbl : (n : Int) ≤ 9223372036854775807 := by omega
 clear ho hB hn hbase hgw hA3 ek en hi0 hsz0
 go_enter Tryz.func106, Tryz.ntmps106
 go_wp2
 go_still_tail 6, (by kernel_rfl)
 have HB2 := Aside0.mk (below_drew1 HB.out)
 have HO2 := Aside0.mk (Kd.R_drew HO.out)
 go_wp2_with (first | ((with_reducible refine gate_builtin (b := .append) (xs := #[.tmp 22, .tmp 25]) rfl ?_); at_builtin; refine Kd.R_delete k37 (w0 := w0) w0.heap.size rfl (.tmp 22) (.tmp 25) 26 37 rfl Tryz.underlying26 HI.out (g := g) (n := n) (c := c) (k := k) rfl rfl HA3.out rfl HO2.out HK.out HB2.out HB2.out.size ?_; intro w1 ho1 hb1 _; have HO3 := Aside0.mk ho1; have HB3 := Aside0.mk hb1; clear ho1 hb1) | ((with_reducible refine gate_builtin (b := .clear) (xs := #[.tmp 31]) rfl ?_); refine Fn.clear_step k37 (w0 := w0) w0.heap.size rfl (.tmp 31) 26 37 (.agg #[.int .i64 0, .int .i64 0, .int .i64 0]) [.int .i64 0, .int .i64 0, .int .i64 0] rfl Tryz.underlying26 (fun _ => by kernel_rfl) (by kernel_rfl) (by simp [Value.oneCell']) rfl (g := g) (m := n - 1) (c := c) rfl rfl HC.out HO3.out HB3.out HB3.out.size ?_; intro w1 ho1 hb1; have HO4 := Aside0.mk ho1; have HB4 := Aside0.mk hb1; clear ho1 hb1))
 go_ret
 exact ⟨_, rfl, HO4.out, HB4.out⟩
def impl_dropped.f (l0 : List S37) (a1 : Int) : Option (List S37) := if 0 ≤ a1 then (if a1 < (l0.length : Int) then (if l0.length < 5864062014805 then some (l0.eraseIdx a1.toNat) else none) else none) else none
set_option maxHeartbeats 8000000 in
set_option maxRecDepth 100000 in
theorem impl_dropped.calls (A0 : Option Addr) (c0 : Nat) (l0 : List (S37)) (a1 : Int) (r : List (S37)) (w : World) (hr0 : Kd.C k37 w A0 l0.length l0) (hc0 : l0.length ≤ c0) (h : impl_dropped.f l0 a1 = some r) :
 Calls Tryz.prog 79 #[.slice A0 l0.length c0, .int .i64 a1] w fun e w' => ∃ v0_ : Value, e = .returned (v0_) ∧ Kd.R k37 37 w' w.heap.size (fun _ => True) v0_ r ∧ Below w.heap.size w w' := by
 unfold impl_dropped.f at h
 by_cases h0 : 0 ≤ a1
 rotate_left
 · exact none_ (if_neg h0) h
 rw [if_pos h0] at h
 by_cases h1 : a1 < (l0.length : Int)
 rotate_left
 · exact none_ (if_neg h1) h
 rw [if_pos h1] at h
 by_cases h2 : l0.length < 5864062014805
 rotate_left
 · exact none_ (if_neg h2) h
 rw [if_pos h2] at h
 obtain rfl := Option.some.inj h
 obtain ⟨k, rfl⟩ : ∃ k : Nat, a1 = (k : Int) := ⟨a1.toNat, by omega⟩
 have HR0 := Aside0.mk hr0
 have HC0 := Aside0.mk hc0
 have HCL := Aside0.mk (show slices_Clone_clue.f l0 = some l0 by unfold slices_Clone_clue.f; rw [if_pos h2])
 have HK := Aside0.mk (show k < l0.length by omega)
 have hb0 : (k : Int) ≤ 5864062014805 := by omega
 clear hr0 hc0 h h0 h1 h2
 go_enter Tryz.func79, Tryz.ntmps79
 go_wp2_with (first | (go_at_call 78; (with_reducible refine (slices_Clone_clue.calls A0 c0 l0 l0 w HR0.out HC0.out HCL.out).mono ?_); rintro e w1 ⟨v1, rfl, ho, hb⟩; have HO := Aside0.mk ho; have HB := Aside0.mk hb; clear ho hb) | (go_at_call 106; (with_reducible refine (slices_Delete_clue l0 k HK.out v1 w _ HB.out HO.out).mono ?_); rintro e w2 ⟨v2, rfl, ho, hb⟩; have HO2 := Aside0.mk ho; have HB2 := Aside0.mk hb; clear ho hb))
 go_ret
 exact ⟨_, rfl, HO2.out, HB2.out⟩

theorem z13_1_ {p : Prop} (h : p := by (try simp only [List.map_toArray, List.map_cons, List.map_nil]); first | done | rfl | (simp only [List.length_drop, List.length_take]; rfl)) : p := h
theorem z13_2_ {p : Prop} (h : p := by repeat (first | (with_reducible first | exact HB.out | apply below_alloc | apply pw_below_drewN | apply below_drew1 | refine below_set ?_ GE380.out | refine below_set ?_ GE381.out) | exact HB.out)) : p := h
theorem z13_3_ {p : Prop} (h : p := by exact b_ BK380.out) : p := h
theorem z13_4_ {p : Prop} (h : p := by refine b_ ?_; refine blk_put (cs := #[.int .i64 ((rd_T37 l0_0 x12_1).f0), .int .i64 ((rd_T37 l0_0 x12_1).f1), .int .i64 0]) ?_ 2 _ rfl; refine b_ ?_; refine blk_put (cs := #[.int .i64 ((rd_T37 l0_0 x12_1).f0), .int .i64 0, .int .i64 0]) ?_ 1 _ rfl; refine b_ ?_; refine blk_put (cs := #[.int .i64 0, .int .i64 0, .int .i64 0]) ?_ 0 _ rfl; exact b_ BK401.out) : p := h
theorem z13_5_ {p : Prop} (h : p := by refine b_ ?_; refine blk_far ?_ NB399_401.out _; refine b_ ?_; refine blk_far ?_ NB399_401.out _; refine b_ ?_; refine blk_far ?_ NB399_401.out _; exact b_ BK399.out) : p := h
theorem z13_6_ {p : Prop} (h : p := by repeat (first | (with_reducible first | exact HB.out | apply below_alloc | apply pw_below_drewN | apply below_drew1 | refine below_set ?_ GE380.out) | exact HB.out)) : p := h
theorem z13_7_ {p : Prop} (h : p := by repeat (first | (with_reducible first | exact HB.out | apply below_alloc | apply pw_below_drewN | apply below_drew1 | refine below_set ?_ GE399.out) | exact HB.out)) : p := h
theorem z13_8_ {p : Prop} (h : p := by exact b_ BK381.out) : p := h
theorem z13_9_ {p : Prop} (h : p := by exact b_ BK399.out) : p := h
theorem z13_10_ {p : Prop} (h : p := by exact rr_ HO_6.out) : p := h
theorem z13_11_ {p : Prop} (h : p := by refine b_ ?_; refine blk_put (cs := #[.slice none 0 0]) ?_ 0 _ rfl; exact b_ BK381.out) : p := h

/-! ### impl_HarderPuzzle: function 16 -/
def impl_HarderPuzzle.l0 : Nat → List (S37) → Int → Option ((List (S37)) × Bool)
 | 0, _, _ => none
 | k + 1, x6, x7 => if x7 < (x6.length : Int) then ((impl_dropped.f x6 x7).bind fun t387 => ((impl_solutions.f k t387).bind fun t390 => (if (t390.length : Int) = 1 then (impl_HarderPuzzle.l0 k t387 x7) else (impl_HarderPuzzle.l0 k x6 (wrap64 (x7 + 1)))))) else (some (x6, true))
def impl_HarderPuzzle.f (k : Nat) (l0_0 : List (S37)) : Option ((List (S37)) × Bool) := (impl_IsSolved.f k l0_0).bind fun bt382 => (if bt382.1 = true then ((slices_Clone_clue.f l0_0).bind fun t384 => (impl_HarderPuzzle.l0 k t384 0)) else (some (([] : List (S37)), false)))
theorem impl_HarderPuzzle.mono_l : ∀ k, (∀ y0 y1, LeO (impl_HarderPuzzle.l0 k y0 y1) (impl_HarderPuzzle.l0 (k + 1) y0 y1))
 | 0 => fun _ _ r h => by simp [impl_HarderPuzzle.l0] at h
 | k + 1 => by
  have ih0 := impl_HarderPuzzle.mono_l k
  intro y0 y1
  unfold impl_HarderPuzzle.l0
  repeat' first
  | (with_reducible exact ih0 _ _)
  | (with_reducible exact impl_IsSolved.mono _ _)
  | (with_reducible exact impl_solutions.mono _ _)
  | (with_reducible exact LeO.refl _)
  | (with_reducible exact LeO.none _)
  | (with_reducible refine LeO.ite ?_ ?_)
  | (with_reducible refine LeO.bind ?_ (fun _ => ?_))
  | exact LeO.none _
  | refine LeO.ite ?_ ?_
  | refine LeO.bind ?_ (fun _ => ?_)
theorem impl_HarderPuzzle.mono : ∀ a0 k, LeO (impl_HarderPuzzle.f k a0) (impl_HarderPuzzle.f (k + 1) a0) := by
 intro a0 k
 have ih0 := impl_HarderPuzzle.mono_l k
 unfold impl_HarderPuzzle.f
 repeat' first
  | (with_reducible exact ih0 _ _)
  | (with_reducible exact impl_IsSolved.mono _ _)
  | (with_reducible exact impl_solutions.mono _ _)
  | (with_reducible exact LeO.refl _)
  | (with_reducible exact LeO.none _)
  | (with_reducible refine LeO.ite ?_ ?_)
  | (with_reducible refine LeO.bind ?_ (fun _ => ?_))
  | exact LeO.none _
  | refine LeO.ite ?_ ?_
  | refine LeO.bind ?_ (fun _ => ?_)
set_option maxHeartbeats 8000000 in
set_option maxRecDepth 100000 in
theorem impl_HarderPuzzle.calls (k : Nat) (A0_0 : Option Addr) (c0_0 : Nat) (l0_0 : List (S37)) (r1 : List (S37)) (r2 : Bool) (w : World) (hr0_0 : Kd.C k37 w A0_0 l0_0.length l0_0) (hc0_0 : l0_0.length ≤ c0_0) (h : impl_HarderPuzzle.f k l0_0 = some (r1, r2)) :
 Calls Tryz.prog 16 #[.agg #[.slice A0_0 l0_0.length c0_0]] w fun e w' => ∃ v0_ : Value, e = .returned (.tuple #[.agg #[v0_], .bool r2]) ∧ Kd.R k37 37 w' w.heap.size (fun _ => True) v0_ r1 ∧ Below w.heap.size w w' := by
 have hu28 := Tryz.underlying28
 have HR0_0 := Aside0.mk hr0_0
 have HC0_0 := Aside0.mk hc0_0
 clear hr0_0 hc0_0
 have HB := Aside0.mk (Below.refl w.heap.size w)
 unfold impl_HarderPuzzle.f at h
 have H := h
 clear h
 replace H := bd_ H; obtain ⟨⟨t382, t383⟩, A2, H⟩ := H
 dsimp only at H
 by_cases c3 : t382 = true
 · subst c3
   rw [if_pos rfl] at H
   replace H := bd_ H; obtain ⟨t384, A4, H⟩ := H
   have H' := Aside0.mk H
   clear H
   go_enter Tryz.func16, Tryz.ntmps16
   go_wp2_with (first | (refine bx_ 1 #[.slice A0_0 l0_0.length c0_0] 28 ?_; intro gb380 hg w5 hbox hb; have BK380 := Aside0.mk (hbox); have GW380 : Aside0 (w.heap.size ≤ gb380) := bs_ hg zB_; have GE380 := GW380; replace HB := Aside0.mk (below_step zB_ hb); clear hb hbox hg) | (refine bx_ 2 #[.slice none 0 0] 28 ?_; intro gb381 hg w6 hbox hb; have BK381 := Aside0.mk (hbox); have GW381 : Aside0 (w.heap.size ≤ gb381) := bs_ hg z13_6_; have GE381 := GW381; replace HB := Aside0.mk (below_step z13_6_ hb); have NB380_381 := nl_ BK380 z13_3_ hg; have NB381_380 := ns_ NB380_381; replace BK380 := bb_ BK380 z13_3_ hb; clear hb hbox hg; have hnb7 := NB380_381.out; have hnc7 := NB381_380.out; have hcz8_0 : w6.cell? ⟨gb380, 0, none⟩ = some (.slice A0_0 l0_0.length c0_0) := (blk_cell BK380.out 0).trans rfl; have hfz8_0 := blk_frozen BK380.out 0) | ((with_reducible refine gc_ 18 rfl ?_); refine gL_ 11 Tryz.func18 #[.agg #[.slice A0_0 l0_0.length c0_0]] ?_; (with_reducible refine (impl_IsSolved.calls k _ _ l0_0 true t383 _ ?side1 ?side2 A2.out).mono ?_); (case side1 => exact zc15_5_); (case side2 => exact HC0_0.out); rintro e w9 ⟨rfl, hb⟩; refine ⟨_, rfl, ?_⟩; replace BK380 := bb_ BK380 z13_3_ hb; replace BK381 := bb_ BK381 z13_8_ hb; replace HB := Aside0.mk (below_step z13_2_ hb); have hcz10_0 : w9.cell? ⟨gb380, 0, none⟩ = some (.slice A0_0 l0_0.length c0_0) := (blk_cell BK380.out 0).trans rfl; have hfz10_0 := blk_frozen BK380.out 0) | ((with_reducible refine gc_ 78 rfl ?_); refine gL_ 19 Tryz.func78 #[.slice A0_0 l0_0.length c0_0] ?_; (with_reducible refine (slices_Clone_clue.calls _ _ l0_0 t384 _ ?side1 ?side2 A4.out).mono ?_); (case side1 => exact zc15_5_); (case side2 => exact HC0_0.out); rintro e w11 ⟨v385, rfl, ho0, hb⟩; refine ⟨_, rfl, ?_⟩; have HO386 := Aside0.mk (Kd.R_lower ho0 (below_size z13_2_)); replace BK380 := bb_ BK380 z13_3_ hb; replace BK381 := bb_ BK381 z13_8_ hb; replace HB := Aside0.mk (below_step z13_2_ hb)))
   go_loopg [6, 7] k (fun kq v6 v7 w' => ∃ (x6_1 : List (S37)) (x7_1 : Int), v7 = .int .i64 x7_1 ∧ Aside0 (impl_HarderPuzzle.l0 kq x6_1 x7_1 = some (r1, r2)) ∧ Aside0 (kq ≤ k) ∧ Aside0 (Kd.R k37 37 w' w.heap.size (fun _ => True) v6 x6_1) ∧ Aside0 (w'.heap[gb380]? = some (.cells #[(.slice A0_0 l0_0.length c0_0)] 28 (0, 0))) ∧ Aside0 (w'.heap[gb381]? = some (.cells #[(.slice none 0 0)] 28 (0, 0))) ∧ Aside0 (Below w.heap.size w w'))
   case atStart => exact ⟨(t384), (0), zV_, H', ⟨Nat.le_refl _⟩, ⟨rr_ HO386.out⟩, ⟨b_ BK380.out⟩, ⟨b_ BK381.out⟩, ⟨by repeat (first | (with_reducible first | exact HB.out | apply below_alloc | apply pw_below_drewN | apply below_drew1 | refine below_set ?_ GE380.out | refine below_set ?_ GE381.out) | exact HB.out)⟩⟩
   case round =>
    clear H'
    obtain ⟨x6_1, x7_1, rfl, HA, HK1, HO_6, BK380, BK381, HB⟩ := hrel
    cases gk with
    | zero => exact absurd HA.out (by simp [impl_HarderPuzzle.l0])
    | succ k1 =>
     have H := HA.out
     clear HA
     simp only [impl_HarderPuzzle.l0] at H
     by_cases c12 : x7_1 < (x6_1.length : Int)
     · rw [if_pos c12] at H
       have c12b0 := decide_eq_true c12
       clear c12
       replace H := bd_ H; obtain ⟨t387, A13, H⟩ := H
       replace H := bd_ H; obtain ⟨t390, A14, H⟩ := H
       by_cases c15 : (t390.length : Int) = 1
       · obtain ⟨H, c15b0, c15b1⟩ := ep_ c15 H
         clear c15
         have H' := Aside0.mk H
         clear H
         obtain ⟨Ao16, co16, eo16⟩ := Kd.R_slice HO_6.out
         subst eo16
         go_wp2_with (first | ((with_reducible refine gc_ 79 rfl ?_); refine gL_ 26 Tryz.func79 #[.slice Ao16 x6_1.length co16, .int .i64 x7_1] ?_; (with_reducible refine (impl_dropped.calls _ _ x6_1 x7_1 t387 _ ?side1 ?side2 A13.out).mono ?_); (case side1 => exact zc15_9_); (case side2 => exact (Kd.R_reads' HO_6.out).2.1); rintro e w17 ⟨v388, rfl, ho0, hb⟩; refine ⟨_, rfl, ?_⟩; have HO389 := Aside0.mk (Kd.R_lower (Kd.R_new' ho0 (Kd.R_lt z13_10_)) (below_size z13_2_)); replace HO_6 := Aside0.mk (Kd.R_elder' z13_10_ (Kd.R_base ho0) hb); replace BK380 := bb_ BK380 z13_3_ hb; replace BK381 := bb_ BK381 z13_8_ hb; replace HB := Aside0.mk (below_step z13_2_ hb); obtain ⟨Ao18, co18, eo18⟩ := Kd.R_slice HO389.out; subst eo18) | ((with_reducible refine gc_ 80 rfl ?_); refine gL_ 28 Tryz.func80 #[.slice Ao18 t387.length co18] ?_; (with_reducible refine (impl_solutions.calls k1 _ _ t387 t390 _ ?side1 ?side2 A14.out).mono ?_); (case side1 => exact zc15_6_); (case side2 => exact (Kd.R_reads' HO389.out).2.1); rintro e w19 ⟨v391, rfl, ho0, hb⟩; refine ⟨_, rfl, ?_⟩; replace HO_6 := Aside0.mk (Kd.R_below z13_10_ hb); replace HO389 := Aside0.mk (Kd.R_below zq15_2_ hb); have HO392 := Aside0.mk (Kd.R_lower ho0 (below_size z13_2_)); replace BK380 := bb_ BK380 z13_3_ hb; replace BK381 := bb_ BK381 z13_8_ hb; replace HB := Aside0.mk (below_step z13_2_ hb); obtain ⟨Ao20, co20, eo20⟩ := Kd.R_slice HO392.out; subst eo20))
         go_roundg k1
         case measure => have := HK1.out; omega
         case rel => exact ⟨(t387), (x7_1), zV_, H', ⟨by have := HK1.out; omega⟩, ⟨by refine rr_ ?_; exact Kd.R_mono HO389.out (fun _ hk => trivial)⟩, ⟨b_ BK380.out⟩, ⟨b_ BK381.out⟩, ⟨by repeat (first | (with_reducible first | exact HB.out | apply below_alloc | apply pw_below_drewN | apply below_drew1 | refine below_set ?_ GE380.out | refine below_set ?_ GE381.out) | exact HB.out)⟩⟩
       obtain ⟨H, c15b0, c15b1⟩ := en_ c15 H
       have H' := Aside0.mk H
       clear H
       obtain ⟨Ao21, co21, eo21⟩ := Kd.R_slice HO_6.out
       subst eo21
       go_wp2_with (first | ((with_reducible refine gc_ 79 rfl ?_); refine gL_ 26 Tryz.func79 #[.slice Ao21 x6_1.length co21, .int .i64 x7_1] ?_; (with_reducible refine (impl_dropped.calls _ _ x6_1 x7_1 t387 _ ?side1 ?side2 A13.out).mono ?_); (case side1 => exact zc15_9_); (case side2 => exact (Kd.R_reads' HO_6.out).2.1); rintro e w22 ⟨v388, rfl, ho0, hb⟩; refine ⟨_, rfl, ?_⟩; have HO389 := Aside0.mk (Kd.R_lower (Kd.R_new' ho0 (Kd.R_lt z13_10_)) (below_size z13_2_)); replace HO_6 := Aside0.mk (Kd.R_elder' z13_10_ (Kd.R_base ho0) hb); replace BK380 := bb_ BK380 z13_3_ hb; replace BK381 := bb_ BK381 z13_8_ hb; replace HB := Aside0.mk (below_step z13_2_ hb); obtain ⟨Ao23, co23, eo23⟩ := Kd.R_slice HO389.out; subst eo23) | ((with_reducible refine gc_ 80 rfl ?_); refine gL_ 28 Tryz.func80 #[.slice Ao23 t387.length co23] ?_; (with_reducible refine (impl_solutions.calls k1 _ _ t387 t390 _ ?side1 ?side2 A14.out).mono ?_); (case side1 => exact zc15_6_); (case side2 => exact (Kd.R_reads' HO389.out).2.1); rintro e w24 ⟨v391, rfl, ho0, hb⟩; refine ⟨_, rfl, ?_⟩; replace HO_6 := Aside0.mk (Kd.R_below z13_10_ hb); replace HO389 := Aside0.mk (Kd.R_below zq15_2_ hb); have HO392 := Aside0.mk (Kd.R_lower ho0 (below_size z13_2_)); replace BK380 := bb_ BK380 z13_3_ hb; replace BK381 := bb_ BK381 z13_8_ hb; replace HB := Aside0.mk (below_step z13_2_ hb); obtain ⟨Ao25, co25, eo25⟩ := Kd.R_slice HO392.out; subst eo25))
       go_roundg k1
       case measure => have := HK1.out; omega
       case rel => exact ⟨(x6_1), (wrap64 (x7_1 + 1)), zV_, H', ⟨by have := HK1.out; omega⟩, ⟨by refine rr_ ?_; exact Kd.R_mono HO_6.out (fun _ hk => trivial)⟩, ⟨b_ BK380.out⟩, ⟨b_ BK381.out⟩, ⟨by repeat (first | (with_reducible first | exact HB.out | apply below_alloc | apply pw_below_drewN | apply below_drew1 | refine below_set ?_ GE380.out | refine below_set ?_ GE381.out) | exact HB.out)⟩⟩
     rw [if_neg c12] at H
     have c12b0 := decide_eq_false c12
     clear c12
     simp only [Option.some.injEq, Prod.mk.injEq] at H
     obtain ⟨rfl, rfl⟩ := H
     obtain ⟨Ao26, co26, eo26⟩ := Kd.R_slice HO_6.out
     subst eo26
     have hnb27 := NB381_380.out
     have hnc27 := NB380_381.out
     have hcz28_0 : wr.cell? ⟨gb381, 0, none⟩ = some (.slice none 0 0) := (blk_cell BK381.out 0).trans rfl
     have hfz28_0 := blk_frozen BK381.out 0
     go_wp2
     refine bodyPost_ret (results_ct rfl _ _ gb381 28 #[.slice Ao26 x6_1.length co26] (0, 0) _ rfl z13_11_ Tryz.underlying28 rfl (by kernel_rfl)) rfl ?_
     exact ⟨_, by first | rfl | (simp [errW_none, errW_some] <;> rfl) | (simp [*, errW_none, errW_some] <;> rfl), by refine rr_ ?_; exact Kd.R_mono (Kd.R_far (p := ⟨gb381, 0, none⟩) (Kd.R_types HO_6.out BK381.out (by decide)) (fun _ hk => hk.2) (.slice Ao26 x6_1.length co26)) (fun _ hk => trivial), by repeat (first | (with_reducible first | exact HB.out | apply below_alloc | apply pw_below_drewN | apply below_drew1 | refine below_set ?_ GE380.out | refine below_set ?_ GE381.out) | exact HB.out)⟩
 replace H := bf_ c3 H; obtain ⟨rfl, H⟩ := H
 simp only [Option.some.injEq, Prod.mk.injEq] at H
 obtain ⟨rfl, rfl⟩ := H
 go_enter Tryz.func16, Tryz.ntmps16
 go_wp2_with (first | (refine bx_ 1 #[.slice A0_0 l0_0.length c0_0] 28 ?_; intro gb380 hg w29 hbox hb; have BK380 := Aside0.mk (hbox); have GW380 : Aside0 (w.heap.size ≤ gb380) := bs_ hg zB_; have GE380 := GW380; replace HB := Aside0.mk (below_step zB_ hb); clear hb hbox hg) | (refine bx_ 2 #[.slice none 0 0] 28 ?_; intro gb381 hg w30 hbox hb; have BK381 := Aside0.mk (hbox); have GW381 : Aside0 (w.heap.size ≤ gb381) := bs_ hg z13_6_; have GE381 := GW381; replace HB := Aside0.mk (below_step z13_6_ hb); have NB380_381 := nl_ BK380 z13_3_ hg; have NB381_380 := ns_ NB380_381; replace BK380 := bb_ BK380 z13_3_ hb; clear hb hbox hg; have hnb31 := NB380_381.out; have hnc31 := NB381_380.out; have hcz32_0 : w30.cell? ⟨gb380, 0, none⟩ = some (.slice A0_0 l0_0.length c0_0) := (blk_cell BK380.out 0).trans rfl; have hfz32_0 := blk_frozen BK380.out 0) | ((with_reducible refine gc_ 18 rfl ?_); refine gL_ 11 Tryz.func18 #[.agg #[.slice A0_0 l0_0.length c0_0]] ?_; (with_reducible refine (impl_IsSolved.calls k _ _ l0_0 false t383 _ ?side1 ?side2 A2.out).mono ?_); (case side1 => exact zc15_5_); (case side2 => exact HC0_0.out); rintro e w33 ⟨rfl, hb⟩; refine ⟨_, rfl, ?_⟩; replace BK380 := bb_ BK380 z13_3_ hb; replace BK381 := bb_ BK381 z13_8_ hb; replace HB := Aside0.mk (below_step z13_2_ hb); have hcz34_0 : w33.cell? ⟨gb381, 0, none⟩ = some (.slice none 0 0) := (blk_cell BK381.out 0).trans rfl; have hfz34_0 := blk_frozen BK381.out 0))
 refine bodyPost_ret (results_ct rfl _ _ gb381 28 #[.slice none 0 0] (0, 0) _ rfl z13_11_ Tryz.underlying28 rfl (by kernel_rfl)) rfl ?_
 exact ⟨_, by first | rfl | (simp [errW_none, errW_some] <;> rfl) | (simp [*, errW_none, errW_some] <;> rfl), by first | exact Kd.R_nil _ _ _ _ _ | exact Kd.N_nil _ _ _ _ _ | exact Kd.V_nil _ _ _ _ _ | exact Kd.Q_nil _ _ _ _ _ | exact Kd.S_nil _ _ _ _ _, by repeat (first | (with_reducible first | exact HB.out | apply below_alloc | apply pw_below_drewN | apply below_drew1 | refine below_set ?_ GE380.out | refine below_set ?_ GE381.out) | exact HB.out)⟩

/-! ### spec_pzClue: function 85 -/
def spec_pzClue.f (a0_0 : Int) (a0_1 : Int) (a0_2 : Int) : Option (Bool) := (spec_l1In.f a0_2 0 20).bind fun t394 => (if t394 = true then (if a0_0 = 0 then ((spec_l1In.f a0_1 0 1).bind fun t395 => (some t395)) else (if a0_0 = 1 then ((spec_l1In.f a0_1 0 3).bind fun t396 => (some t396)) else (if a0_0 = 2 then (if a0_1 = 0 then (some (decide (a0_2 < 2))) else (some false)) else (if a0_0 = 3 then ((spec_l1In.f a0_1 0 2).bind fun t397 => (if t397 = true then (some (decide (a0_2 < 2))) else (some false))) else (if a0_0 = 4 then (some (a0_1 == 0)) else (if a0_0 = 5 then (if a0_1 = 0 then ((spec_l1In.f a0_2 2 9).bind fun t398 => (some t398)) else (some false)) else (some false))))))) else (some false))
set_option maxHeartbeats 8000000 in
set_option maxRecDepth 100000 in
theorem spec_pzClue.calls (a0_0 : Int) (a0_1 : Int) (a0_2 : Int) (r : Bool) (w : World) (h : spec_pzClue.f a0_0 a0_1 a0_2 = some r) :
 Calls Tryz.prog 85 #[.agg #[.int .i64 a0_0, .int .i64 a0_1, .int .i64 a0_2]] w fun e w' => e = .returned (.bool r) ∧ Below w.heap.size w w' := by
 have hu37 := Tryz.underlying37
 have HB := Aside0.mk (Below.refl w.heap.size w)
 unfold spec_pzClue.f at h
 have H := h
 clear h
 replace H := bd_ H; obtain ⟨t394, A2, H⟩ := H
 by_cases c3 : t394 = true
 rotate_left
 · replace H := bf_ c3 H; obtain ⟨rfl, H⟩ := H
   obtain rfl := Option.some.inj H
   go_enter Tryz.func85, Tryz.ntmps85
   go_wp2_with (first | (refine bx_ 1 #[.int .i64 a0_0, .int .i64 a0_1, .int .i64 a0_2] 37 ?_; intro gb393 hg w37 hbox hb; have BK393 := Aside0.mk (hbox); have GW393 : Aside0 (w.heap.size ≤ gb393) := bs_ hg zB_; have GE393 := GW393; replace HB := Aside0.mk (below_step zB_ hb); clear hb hbox hg; have hcz38_0 : w37.cell? ⟨gb393, 0, none⟩ = some (.int .i64 a0_0) := (blk_cell BK393.out 0).trans rfl; have hcz38_1 : w37.cell? ⟨gb393, 1, none⟩ = some (.int .i64 a0_1) := (blk_cell BK393.out 1).trans rfl; have hcz38_2 : w37.cell? ⟨gb393, 2, none⟩ = some (.int .i64 a0_2) := (blk_cell BK393.out 2).trans rfl; have hfz38_0 := blk_frozen BK393.out 0; have hfz38_1 := blk_frozen BK393.out 1; have hfz38_2 := blk_frozen BK393.out 2) | ((with_reducible refine gc_ 67 rfl ?_); refine gL_ 5 Tryz.func67 #[.int .i64 a0_2, .int .i64 0, .int .i64 20] ?_; (with_reducible refine (spec_l1In.calls a0_2 0 20 false _ A2.out).mono ?_); rintro e w' ⟨rfl, ⟨nd, rfl⟩⟩; refine ⟨_, rfl, ?_⟩))
   go_ret
   exact ⟨zR_, by repeat (first | (with_reducible first | exact HB.out | apply below_alloc | apply pw_below_drewN | apply below_drew1 | refine below_set ?_ GE393.out) | exact HB.out)⟩
 subst c3
 rw [if_pos rfl] at H
 by_cases c4 : a0_0 = 0
 · obtain ⟨H, c4b0, c4b1⟩ := ep_ c4 H
   clear c4
   replace H := bd_ H; obtain ⟨t395, A5, H⟩ := H
   obtain rfl := Option.some.inj H
   go_enter Tryz.func85, Tryz.ntmps85
   go_wp2_with (first | (refine bx_ 1 #[.int .i64 a0_0, .int .i64 a0_1, .int .i64 a0_2] 37 ?_; intro gb393 hg w6 hbox hb; have BK393 := Aside0.mk (hbox); have GW393 : Aside0 (w.heap.size ≤ gb393) := bs_ hg zB_; have GE393 := GW393; replace HB := Aside0.mk (below_step zB_ hb); clear hb hbox hg; have hcz7_0 : w6.cell? ⟨gb393, 0, none⟩ = some (.int .i64 a0_0) := (blk_cell BK393.out 0).trans rfl; have hcz7_1 : w6.cell? ⟨gb393, 1, none⟩ = some (.int .i64 a0_1) := (blk_cell BK393.out 1).trans rfl; have hcz7_2 : w6.cell? ⟨gb393, 2, none⟩ = some (.int .i64 a0_2) := (blk_cell BK393.out 2).trans rfl; have hfz7_0 := blk_frozen BK393.out 0; have hfz7_1 := blk_frozen BK393.out 1; have hfz7_2 := blk_frozen BK393.out 2) | ((with_reducible refine gc_ 67 rfl ?_); refine gL_ 5 Tryz.func67 #[.int .i64 a0_2, .int .i64 0, .int .i64 20] ?_; (with_reducible refine (spec_l1In.calls a0_2 0 20 true _ A2.out).mono ?_); rintro e w' ⟨rfl, ⟨nd, rfl⟩⟩; refine ⟨_, rfl, ?_⟩) | ((with_reducible refine gc_ 67 rfl ?_); refine gL_ 13 Tryz.func67 #[.int .i64 a0_1, .int .i64 0, .int .i64 1] ?_; (with_reducible refine (spec_l1In.calls a0_1 0 1 t395 _ A5.out).mono ?_); rintro e w' ⟨rfl, ⟨nd, rfl⟩⟩; refine ⟨_, rfl, ?_⟩))
   go_ret
   exact ⟨zR_, by repeat (first | (with_reducible first | exact HB.out | apply below_alloc | apply pw_below_drewN | apply below_drew1 | refine below_set ?_ GE393.out) | exact HB.out)⟩
 obtain ⟨H, c4b0, c4b1⟩ := en_ c4 H
 by_cases c8 : a0_0 = 1
 · obtain ⟨H, c8b0, c8b1⟩ := ep_ c8 H
   clear c8
   replace H := bd_ H; obtain ⟨t396, A9, H⟩ := H
   obtain rfl := Option.some.inj H
   go_enter Tryz.func85, Tryz.ntmps85
   go_wp2_with (first | (refine bx_ 1 #[.int .i64 a0_0, .int .i64 a0_1, .int .i64 a0_2] 37 ?_; intro gb393 hg w10 hbox hb; have BK393 := Aside0.mk (hbox); have GW393 : Aside0 (w.heap.size ≤ gb393) := bs_ hg zB_; have GE393 := GW393; replace HB := Aside0.mk (below_step zB_ hb); clear hb hbox hg; have hcz11_0 : w10.cell? ⟨gb393, 0, none⟩ = some (.int .i64 a0_0) := (blk_cell BK393.out 0).trans rfl; have hcz11_1 : w10.cell? ⟨gb393, 1, none⟩ = some (.int .i64 a0_1) := (blk_cell BK393.out 1).trans rfl; have hcz11_2 : w10.cell? ⟨gb393, 2, none⟩ = some (.int .i64 a0_2) := (blk_cell BK393.out 2).trans rfl; have hfz11_0 := blk_frozen BK393.out 0; have hfz11_1 := blk_frozen BK393.out 1; have hfz11_2 := blk_frozen BK393.out 2) | ((with_reducible refine gc_ 67 rfl ?_); refine gL_ 5 Tryz.func67 #[.int .i64 a0_2, .int .i64 0, .int .i64 20] ?_; (with_reducible refine (spec_l1In.calls a0_2 0 20 true _ A2.out).mono ?_); rintro e w' ⟨rfl, ⟨nd, rfl⟩⟩; refine ⟨_, rfl, ?_⟩) | ((with_reducible refine gc_ 67 rfl ?_); refine gL_ 18 Tryz.func67 #[.int .i64 a0_1, .int .i64 0, .int .i64 3] ?_; (with_reducible refine (spec_l1In.calls a0_1 0 3 t396 _ A9.out).mono ?_); rintro e w' ⟨rfl, ⟨nd, rfl⟩⟩; refine ⟨_, rfl, ?_⟩))
   go_ret
   exact ⟨zR_, by repeat (first | (with_reducible first | exact HB.out | apply below_alloc | apply pw_below_drewN | apply below_drew1 | refine below_set ?_ GE393.out) | exact HB.out)⟩
 obtain ⟨H, c8b0, c8b1⟩ := en_ c8 H
 by_cases c12 : a0_0 = 2
 · obtain ⟨H, c12b0, c12b1⟩ := ep_ c12 H
   clear c12
   by_cases c13 : a0_1 = 0
   · obtain ⟨H, c13b0, c13b1⟩ := ep_ c13 H
     clear c13
     obtain rfl := Option.some.inj H
     go_enter Tryz.func85, Tryz.ntmps85
     go_wp2_with (first | (refine bx_ 1 #[.int .i64 a0_0, .int .i64 a0_1, .int .i64 a0_2] 37 ?_; intro gb393 hg w14 hbox hb; have BK393 := Aside0.mk (hbox); have GW393 : Aside0 (w.heap.size ≤ gb393) := bs_ hg zB_; have GE393 := GW393; replace HB := Aside0.mk (below_step zB_ hb); clear hb hbox hg; have hcz15_0 : w14.cell? ⟨gb393, 0, none⟩ = some (.int .i64 a0_0) := (blk_cell BK393.out 0).trans rfl; have hcz15_1 : w14.cell? ⟨gb393, 1, none⟩ = some (.int .i64 a0_1) := (blk_cell BK393.out 1).trans rfl; have hcz15_2 : w14.cell? ⟨gb393, 2, none⟩ = some (.int .i64 a0_2) := (blk_cell BK393.out 2).trans rfl; have hfz15_0 := blk_frozen BK393.out 0; have hfz15_1 := blk_frozen BK393.out 1; have hfz15_2 := blk_frozen BK393.out 2) | ((with_reducible refine gc_ 67 rfl ?_); refine gL_ 5 Tryz.func67 #[.int .i64 a0_2, .int .i64 0, .int .i64 20] ?_; (with_reducible refine (spec_l1In.calls a0_2 0 20 true _ A2.out).mono ?_); rintro e w' ⟨rfl, ⟨nd, rfl⟩⟩; refine ⟨_, rfl, ?_⟩))
     go_ret
     exact ⟨zR_, by repeat (first | (with_reducible first | exact HB.out | apply below_alloc | apply pw_below_drewN | apply below_drew1 | refine below_set ?_ GE393.out) | exact HB.out)⟩
   obtain ⟨H, c13b0, c13b1⟩ := en_ c13 H
   obtain rfl := Option.some.inj H
   go_enter Tryz.func85, Tryz.ntmps85
   go_wp2_with (first | (refine bx_ 1 #[.int .i64 a0_0, .int .i64 a0_1, .int .i64 a0_2] 37 ?_; intro gb393 hg w16 hbox hb; have BK393 := Aside0.mk (hbox); have GW393 : Aside0 (w.heap.size ≤ gb393) := bs_ hg zB_; have GE393 := GW393; replace HB := Aside0.mk (below_step zB_ hb); clear hb hbox hg; have hcz17_0 : w16.cell? ⟨gb393, 0, none⟩ = some (.int .i64 a0_0) := (blk_cell BK393.out 0).trans rfl; have hcz17_1 : w16.cell? ⟨gb393, 1, none⟩ = some (.int .i64 a0_1) := (blk_cell BK393.out 1).trans rfl; have hcz17_2 : w16.cell? ⟨gb393, 2, none⟩ = some (.int .i64 a0_2) := (blk_cell BK393.out 2).trans rfl; have hfz17_0 := blk_frozen BK393.out 0; have hfz17_1 := blk_frozen BK393.out 1; have hfz17_2 := blk_frozen BK393.out 2) | ((with_reducible refine gc_ 67 rfl ?_); refine gL_ 5 Tryz.func67 #[.int .i64 a0_2, .int .i64 0, .int .i64 20] ?_; (with_reducible refine (spec_l1In.calls a0_2 0 20 true _ A2.out).mono ?_); rintro e w' ⟨rfl, ⟨nd, rfl⟩⟩; refine ⟨_, rfl, ?_⟩))
   go_ret
   exact ⟨zR_, by repeat (first | (with_reducible first | exact HB.out | apply below_alloc | apply pw_below_drewN | apply below_drew1 | refine below_set ?_ GE393.out) | exact HB.out)⟩
 obtain ⟨H, c12b0, c12b1⟩ := en_ c12 H
 by_cases c18 : a0_0 = 3
 · obtain ⟨H, c18b0, c18b1⟩ := ep_ c18 H
   clear c18
   replace H := bd_ H; obtain ⟨t397, A19, H⟩ := H
   by_cases c20 : t397 = true
   · subst c20
     rw [if_pos rfl] at H
     obtain rfl := Option.some.inj H
     go_enter Tryz.func85, Tryz.ntmps85
     go_wp2_with (first | (refine bx_ 1 #[.int .i64 a0_0, .int .i64 a0_1, .int .i64 a0_2] 37 ?_; intro gb393 hg w21 hbox hb; have BK393 := Aside0.mk (hbox); have GW393 : Aside0 (w.heap.size ≤ gb393) := bs_ hg zB_; have GE393 := GW393; replace HB := Aside0.mk (below_step zB_ hb); clear hb hbox hg; have hcz22_0 : w21.cell? ⟨gb393, 0, none⟩ = some (.int .i64 a0_0) := (blk_cell BK393.out 0).trans rfl; have hcz22_1 : w21.cell? ⟨gb393, 1, none⟩ = some (.int .i64 a0_1) := (blk_cell BK393.out 1).trans rfl; have hcz22_2 : w21.cell? ⟨gb393, 2, none⟩ = some (.int .i64 a0_2) := (blk_cell BK393.out 2).trans rfl; have hfz22_0 := blk_frozen BK393.out 0; have hfz22_1 := blk_frozen BK393.out 1; have hfz22_2 := blk_frozen BK393.out 2) | ((with_reducible refine gc_ 67 rfl ?_); refine gL_ 5 Tryz.func67 #[.int .i64 a0_2, .int .i64 0, .int .i64 20] ?_; (with_reducible refine (spec_l1In.calls a0_2 0 20 true _ A2.out).mono ?_); rintro e w' ⟨rfl, ⟨nd, rfl⟩⟩; refine ⟨_, rfl, ?_⟩) | ((with_reducible refine gc_ 67 rfl ?_); refine gL_ 33 Tryz.func67 #[.int .i64 a0_1, .int .i64 0, .int .i64 2] ?_; (with_reducible refine (spec_l1In.calls a0_1 0 2 true _ A19.out).mono ?_); rintro e w' ⟨rfl, ⟨nd, rfl⟩⟩; refine ⟨_, rfl, ?_⟩))
     go_ret
     exact ⟨zR_, by repeat (first | (with_reducible first | exact HB.out | apply below_alloc | apply pw_below_drewN | apply below_drew1 | refine below_set ?_ GE393.out) | exact HB.out)⟩
   replace H := bf_ c20 H; obtain ⟨rfl, H⟩ := H
   obtain rfl := Option.some.inj H
   go_enter Tryz.func85, Tryz.ntmps85
   go_wp2_with (first | (refine bx_ 1 #[.int .i64 a0_0, .int .i64 a0_1, .int .i64 a0_2] 37 ?_; intro gb393 hg w23 hbox hb; have BK393 := Aside0.mk (hbox); have GW393 : Aside0 (w.heap.size ≤ gb393) := bs_ hg zB_; have GE393 := GW393; replace HB := Aside0.mk (below_step zB_ hb); clear hb hbox hg; have hcz24_0 : w23.cell? ⟨gb393, 0, none⟩ = some (.int .i64 a0_0) := (blk_cell BK393.out 0).trans rfl; have hcz24_1 : w23.cell? ⟨gb393, 1, none⟩ = some (.int .i64 a0_1) := (blk_cell BK393.out 1).trans rfl; have hcz24_2 : w23.cell? ⟨gb393, 2, none⟩ = some (.int .i64 a0_2) := (blk_cell BK393.out 2).trans rfl; have hfz24_0 := blk_frozen BK393.out 0; have hfz24_1 := blk_frozen BK393.out 1; have hfz24_2 := blk_frozen BK393.out 2) | ((with_reducible refine gc_ 67 rfl ?_); refine gL_ 5 Tryz.func67 #[.int .i64 a0_2, .int .i64 0, .int .i64 20] ?_; (with_reducible refine (spec_l1In.calls a0_2 0 20 true _ A2.out).mono ?_); rintro e w' ⟨rfl, ⟨nd, rfl⟩⟩; refine ⟨_, rfl, ?_⟩) | ((with_reducible refine gc_ 67 rfl ?_); refine gL_ 33 Tryz.func67 #[.int .i64 a0_1, .int .i64 0, .int .i64 2] ?_; (with_reducible refine (spec_l1In.calls a0_1 0 2 false _ A19.out).mono ?_); rintro e w' ⟨rfl, ⟨nd, rfl⟩⟩; refine ⟨_, rfl, ?_⟩))
   go_ret
   exact ⟨zR_, by repeat (first | (with_reducible first | exact HB.out | apply below_alloc | apply pw_below_drewN | apply below_drew1 | refine below_set ?_ GE393.out) | exact HB.out)⟩
 obtain ⟨H, c18b0, c18b1⟩ := en_ c18 H
 by_cases c25 : a0_0 = 4
 · obtain ⟨H, c25b0, c25b1⟩ := ep_ c25 H
   clear c25
   obtain rfl := Option.some.inj H
   go_enter Tryz.func85, Tryz.ntmps85
   go_wp2_with (first | (refine bx_ 1 #[.int .i64 a0_0, .int .i64 a0_1, .int .i64 a0_2] 37 ?_; intro gb393 hg w26 hbox hb; have BK393 := Aside0.mk (hbox); have GW393 : Aside0 (w.heap.size ≤ gb393) := bs_ hg zB_; have GE393 := GW393; replace HB := Aside0.mk (below_step zB_ hb); clear hb hbox hg; have hcz27_0 : w26.cell? ⟨gb393, 0, none⟩ = some (.int .i64 a0_0) := (blk_cell BK393.out 0).trans rfl; have hcz27_1 : w26.cell? ⟨gb393, 1, none⟩ = some (.int .i64 a0_1) := (blk_cell BK393.out 1).trans rfl; have hcz27_2 : w26.cell? ⟨gb393, 2, none⟩ = some (.int .i64 a0_2) := (blk_cell BK393.out 2).trans rfl; have hfz27_0 := blk_frozen BK393.out 0; have hfz27_1 := blk_frozen BK393.out 1; have hfz27_2 := blk_frozen BK393.out 2) | ((with_reducible refine gc_ 67 rfl ?_); refine gL_ 5 Tryz.func67 #[.int .i64 a0_2, .int .i64 0, .int .i64 20] ?_; (with_reducible refine (spec_l1In.calls a0_2 0 20 true _ A2.out).mono ?_); rintro e w' ⟨rfl, ⟨nd, rfl⟩⟩; refine ⟨_, rfl, ?_⟩))
   go_ret
   exact ⟨zR_, by repeat (first | (with_reducible first | exact HB.out | apply below_alloc | apply pw_below_drewN | apply below_drew1 | refine below_set ?_ GE393.out) | exact HB.out)⟩
 obtain ⟨H, c25b0, c25b1⟩ := en_ c25 H
 by_cases c28 : a0_0 = 5
 rotate_left
 · obtain ⟨H, c28b0, c28b1⟩ := en_ c28 H
   obtain rfl := Option.some.inj H
   go_enter Tryz.func85, Tryz.ntmps85
   go_wp2_with (first | (refine bx_ 1 #[.int .i64 a0_0, .int .i64 a0_1, .int .i64 a0_2] 37 ?_; intro gb393 hg w35 hbox hb; have BK393 := Aside0.mk (hbox); have GW393 : Aside0 (w.heap.size ≤ gb393) := bs_ hg zB_; have GE393 := GW393; replace HB := Aside0.mk (below_step zB_ hb); clear hb hbox hg; have hcz36_0 : w35.cell? ⟨gb393, 0, none⟩ = some (.int .i64 a0_0) := (blk_cell BK393.out 0).trans rfl; have hcz36_1 : w35.cell? ⟨gb393, 1, none⟩ = some (.int .i64 a0_1) := (blk_cell BK393.out 1).trans rfl; have hcz36_2 : w35.cell? ⟨gb393, 2, none⟩ = some (.int .i64 a0_2) := (blk_cell BK393.out 2).trans rfl; have hfz36_0 := blk_frozen BK393.out 0; have hfz36_1 := blk_frozen BK393.out 1; have hfz36_2 := blk_frozen BK393.out 2) | ((with_reducible refine gc_ 67 rfl ?_); refine gL_ 5 Tryz.func67 #[.int .i64 a0_2, .int .i64 0, .int .i64 20] ?_; (with_reducible refine (spec_l1In.calls a0_2 0 20 true _ A2.out).mono ?_); rintro e w' ⟨rfl, ⟨nd, rfl⟩⟩; refine ⟨_, rfl, ?_⟩))
   go_ret
   exact ⟨zR_, by repeat (first | (with_reducible first | exact HB.out | apply below_alloc | apply pw_below_drewN | apply below_drew1 | refine below_set ?_ GE393.out) | exact HB.out)⟩
 obtain ⟨H, c28b0, c28b1⟩ := ep_ c28 H
 clear c28
 by_cases c29 : a0_1 = 0
 · obtain ⟨H, c29b0, c29b1⟩ := ep_ c29 H
   clear c29
   replace H := bd_ H; obtain ⟨t398, A30, H⟩ := H
   obtain rfl := Option.some.inj H
   go_enter Tryz.func85, Tryz.ntmps85
   go_wp2_with (first | (refine bx_ 1 #[.int .i64 a0_0, .int .i64 a0_1, .int .i64 a0_2] 37 ?_; intro gb393 hg w31 hbox hb; have BK393 := Aside0.mk (hbox); have GW393 : Aside0 (w.heap.size ≤ gb393) := bs_ hg zB_; have GE393 := GW393; replace HB := Aside0.mk (below_step zB_ hb); clear hb hbox hg; have hcz32_0 : w31.cell? ⟨gb393, 0, none⟩ = some (.int .i64 a0_0) := (blk_cell BK393.out 0).trans rfl; have hcz32_1 : w31.cell? ⟨gb393, 1, none⟩ = some (.int .i64 a0_1) := (blk_cell BK393.out 1).trans rfl; have hcz32_2 : w31.cell? ⟨gb393, 2, none⟩ = some (.int .i64 a0_2) := (blk_cell BK393.out 2).trans rfl; have hfz32_0 := blk_frozen BK393.out 0; have hfz32_1 := blk_frozen BK393.out 1; have hfz32_2 := blk_frozen BK393.out 2) | ((with_reducible refine gc_ 67 rfl ?_); refine gL_ 5 Tryz.func67 #[.int .i64 a0_2, .int .i64 0, .int .i64 20] ?_; (with_reducible refine (spec_l1In.calls a0_2 0 20 true _ A2.out).mono ?_); rintro e w' ⟨rfl, ⟨nd, rfl⟩⟩; refine ⟨_, rfl, ?_⟩) | (go_at_call 67; (with_reducible refine (spec_l1In.calls a0_2 2 9 t398 _ A30.out).mono ?_); rintro e w' ⟨rfl, ⟨nd, rfl⟩⟩))
   go_ret
   exact ⟨zR_, by repeat (first | (with_reducible first | exact HB.out | apply below_alloc | apply pw_below_drewN | apply below_drew1 | refine below_set ?_ GE393.out) | exact HB.out)⟩
 obtain ⟨H, c29b0, c29b1⟩ := en_ c29 H
 obtain rfl := Option.some.inj H
 go_enter Tryz.func85, Tryz.ntmps85
 go_wp2_with (first | (refine bx_ 1 #[.int .i64 a0_0, .int .i64 a0_1, .int .i64 a0_2] 37 ?_; intro gb393 hg w33 hbox hb; have BK393 := Aside0.mk (hbox); have GW393 : Aside0 (w.heap.size ≤ gb393) := bs_ hg zB_; have GE393 := GW393; replace HB := Aside0.mk (below_step zB_ hb); clear hb hbox hg; have hcz34_0 : w33.cell? ⟨gb393, 0, none⟩ = some (.int .i64 a0_0) := (blk_cell BK393.out 0).trans rfl; have hcz34_1 : w33.cell? ⟨gb393, 1, none⟩ = some (.int .i64 a0_1) := (blk_cell BK393.out 1).trans rfl; have hcz34_2 : w33.cell? ⟨gb393, 2, none⟩ = some (.int .i64 a0_2) := (blk_cell BK393.out 2).trans rfl; have hfz34_0 := blk_frozen BK393.out 0; have hfz34_1 := blk_frozen BK393.out 1; have hfz34_2 := blk_frozen BK393.out 2) | ((with_reducible refine gc_ 67 rfl ?_); refine gL_ 5 Tryz.func67 #[.int .i64 a0_2, .int .i64 0, .int .i64 20] ?_; (with_reducible refine (spec_l1In.calls a0_2 0 20 true _ A2.out).mono ?_); rintro e w' ⟨rfl, ⟨nd, rfl⟩⟩; refine ⟨_, rfl, ?_⟩))
 go_ret
 exact ⟨zR_, by repeat (first | (with_reducible first | exact HB.out | apply below_alloc | apply pw_below_drewN | apply below_drew1 | refine below_set ?_ GE393.out) | exact HB.out)⟩

/-! ### spec_pzGood: function 81 -/
def spec_pzGood.l0 : Nat → List (S37) → Int → Int → Option (Bool)
 | 0, _, _, _ => none
 | k + 1, x10, x11, x12 => if x12 < x11 then (if 0 ≤ x12 then (if x12 < (x10.length : Int) then ((spec_pzClue.f ((rd_T37 x10 x12).f0) ((rd_T37 x10 x12).f1) ((rd_T37 x10 x12).f2)).bind fun t402 => (if t402 = true then (spec_pzGood.l0 k x10 x11 (wrap64 (x12 + 1))) else (some false))) else (none)) else (none)) else (some true)
def spec_pzGood.f (k : Nat) (l0_0 : List (S37)) : Option (Bool) := if (l0_0.length : Int) > 6 then (some false) else (spec_pzGood.l0 k l0_0 (l0_0.length : Int) 0)
theorem spec_pzGood.mono_l : ∀ k, (∀ y0 y1 y2, LeO (spec_pzGood.l0 k y0 y1 y2) (spec_pzGood.l0 (k + 1) y0 y1 y2))
 | 0 => fun _ _ _ r h => by simp [spec_pzGood.l0] at h
 | k + 1 => by
  have ih0 := spec_pzGood.mono_l k
  intro y0 y1 y2
  unfold spec_pzGood.l0
  repeat' first
  | (with_reducible exact ih0 _ _ _)
  | (with_reducible exact LeO.refl _)
  | (with_reducible exact LeO.none _)
  | (with_reducible refine LeO.ite ?_ ?_)
  | (with_reducible refine LeO.bind ?_ (fun _ => ?_))
  | exact LeO.none _
  | refine LeO.ite ?_ ?_
  | refine LeO.bind ?_ (fun _ => ?_)
theorem spec_pzGood.mono : ∀ a0 k, LeO (spec_pzGood.f k a0) (spec_pzGood.f (k + 1) a0) := by
 intro a0 k
 have ih0 := spec_pzGood.mono_l k
 unfold spec_pzGood.f
 repeat' first
  | (with_reducible exact ih0 _ _ _)
  | (with_reducible exact LeO.refl _)
  | (with_reducible exact LeO.none _)
  | (with_reducible refine LeO.ite ?_ ?_)
  | (with_reducible refine LeO.bind ?_ (fun _ => ?_))
  | exact LeO.none _
  | refine LeO.ite ?_ ?_
  | refine LeO.bind ?_ (fun _ => ?_)
set_option maxHeartbeats 8000000 in
set_option maxRecDepth 100000 in
theorem spec_pzGood.calls (k : Nat) (A0_0 : Option Addr) (c0_0 : Nat) (l0_0 : List (S37)) (r : Bool) (w : World) (hr0_0 : Kd.C k37 w A0_0 l0_0.length l0_0) (hc0_0 : l0_0.length ≤ c0_0) (h : spec_pzGood.f k l0_0 = some r) :
 Calls Tryz.prog 81 #[.agg #[.slice A0_0 l0_0.length c0_0]] w fun e w' => e = .returned (.bool r) ∧ Below w.heap.size w w' := by
 have hu28 := Tryz.underlying28
 have hu37 := Tryz.underlying37
 have HR0_0 := Aside0.mk hr0_0
 have HC0_0 := Aside0.mk hc0_0
 clear hr0_0 hc0_0
 have HB := Aside0.mk (Below.refl w.heap.size w)
 unfold spec_pzGood.f at h
 have H := h
 clear h
 by_cases c2 : (l0_0.length : Int) > 6
 · rw [if_pos c2] at H
   have c2b0 : decide (6 < (l0_0.length : Int)) = true := decide_eq_true c2
   have c2b1 : decide (6 < l0_0.length) = true := decide_eq_true (by omega)
   clear c2
   obtain rfl := Option.some.inj H
   go_enter Tryz.func81, Tryz.ntmps81
   go_wp2_with (first | (refine bx_ 1 #[.slice A0_0 l0_0.length c0_0] 28 ?_; intro gb399 hg w3 hbox hb; have BK399 := Aside0.mk (hbox); have GW399 : Aside0 (w.heap.size ≤ gb399) := bs_ hg zB_; have GE399 := GW399; replace HB := Aside0.mk (below_step zB_ hb); clear hb hbox hg; have hcz4_0 : w3.cell? ⟨gb399, 0, none⟩ = some (.slice A0_0 l0_0.length c0_0) := (blk_cell BK399.out 0).trans rfl; have hfz4_0 := blk_frozen BK399.out 0))
   go_ret
   exact ⟨zR_, by repeat (first | (with_reducible first | exact HB.out | apply below_alloc | apply pw_below_drewN | apply below_drew1 | refine below_set ?_ GE399.out) | exact HB.out)⟩
 rw [if_neg c2] at H
 have c2b0 : decide (6 < (l0_0.length : Int)) = false := decide_eq_false c2
 have c2b1 : decide (6 < l0_0.length) = false := decide_eq_false (by omega)
 clear c2
 have H' := Aside0.mk H
 clear H
 go_enter Tryz.func81, Tryz.ntmps81
 go_wp2_with (first | (refine bx_ 1 #[.slice A0_0 l0_0.length c0_0] 28 ?_; intro gb399 hg w5 hbox hb; have BK399 := Aside0.mk (hbox); have GW399 : Aside0 (w.heap.size ≤ gb399) := bs_ hg zB_; have GE399 := GW399; replace HB := Aside0.mk (below_step zB_ hb); clear hb hbox hg; have hcz6_0 : w5.cell? ⟨gb399, 0, none⟩ = some (.slice A0_0 l0_0.length c0_0) := (blk_cell BK399.out 0).trans rfl; have hfz6_0 := blk_frozen BK399.out 0))
 go_loopg [12] k (fun kq v12 w' => ∃ (x12_1 : Int), v12 = .int .i64 x12_1 ∧ Aside0 (spec_pzGood.l0 kq l0_0 (l0_0.length : Int) x12_1 = some r) ∧ Aside0 (kq ≤ k) ∧ Aside0 (w'.heap[gb399]? = some (.cells #[(.slice A0_0 l0_0.length c0_0)] 28 (0, 0))) ∧ Aside0 (Below w.heap.size w w'))
 case atStart => exact ⟨(0), zV_, H', ⟨Nat.le_refl _⟩, ⟨b_ BK399.out⟩, ⟨by repeat (first | (with_reducible first | exact HB.out | apply below_alloc | apply pw_below_drewN | apply below_drew1 | refine below_set ?_ GE399.out) | exact HB.out)⟩⟩
 case round =>
  clear H'
  obtain ⟨x12_1, rfl, HA, HK1, BK399, HB⟩ := hrel
  cases gk with
  | zero => exact absurd HA.out (by simp [spec_pzGood.l0])
  | succ k1 =>
   have H := HA.out
   clear HA
   simp only [spec_pzGood.l0] at H
   by_cases c7 : x12_1 < (l0_0.length : Int)
   rotate_left
   · rw [if_neg c7] at H
     have c7b0 := decide_eq_false c7
     clear c7
     obtain rfl := Option.some.inj H
     go_wp2
     go_ret
     exact ⟨zR_, by repeat (first | (with_reducible first | exact HB.out | apply below_alloc | apply pw_below_drewN | apply below_drew1 | refine below_set ?_ GE399.out) | exact HB.out)⟩
   rw [if_pos c7] at H
   have c7b0 := decide_eq_true c7
   clear c7
   replace H := gd_ H; obtain ⟨c8, H⟩ := H
   have c8b0 : decide (0 ≤ x12_1) = true := decide_eq_true c8
   clear c8
   replace H := gd_ H; obtain ⟨c9, H⟩ := H
   have c9b0 : decide (x12_1 < (l0_0.length : Int)) = true := decide_eq_true c9
   clear c9
   replace H := bd_ H; obtain ⟨t402, A10, H⟩ := H
   by_cases c11 : t402 = true
   · subst c11
     rw [if_pos rfl] at H
     have H' := Aside0.mk H
     clear H
     have p400 : 0 ≤ (x12_1 : Int) := of_decide_eq_true zS_
     have q400 : x12_1 < (l0_0.length : Int) := of_decide_eq_true zS_
     obtain ⟨ad400, e400, hx400_0, hx400_1, hx400_2⟩ := at_T37 HR0_0.out x12_1 p400 q400
     cases e400
     replace hx400_0 := (HB.out.cell (World.block_lt_of_cell? w _ hx400_0)).trans hx400_0
     replace hx400_1 := (HB.out.cell (World.block_lt_of_cell? w _ hx400_1)).trans hx400_1
     replace hx400_2 := (HB.out.cell (World.block_lt_of_cell? w _ hx400_2)).trans hx400_2
     replace p400 := eq_true p400
     replace q400 := eq_true q400
     go_wp2_with (first | (refine bx_ 4 #[.int .i64 0, .int .i64 0, .int .i64 0] 37 ?_; intro gb401 hg w12 hbox hb; have BK401 := Aside0.mk (hbox); have GW401 : Aside0 (w.heap.size ≤ gb401) := bs_ hg z13_7_; have GE401 := GW401; replace HB := Aside0.mk (below_step z13_7_ hb); have NB399_401 := nl_ BK399 z13_9_ hg; have NB401_399 := ns_ NB399_401; replace BK399 := bb_ BK399 z13_9_ hb; clear hb hbox hg; have hnb13 := NB401_399.out; have hnc13 := NB399_401.out; have hcz14_0 : w12.cell? ⟨gb401, 0, none⟩ = some (.int .i64 0) := (blk_cell BK401.out 0).trans rfl; have hcz14_1 : w12.cell? ⟨gb401, 1, none⟩ = some (.int .i64 0) := (blk_cell BK401.out 1).trans rfl; have hcz14_2 : w12.cell? ⟨gb401, 2, none⟩ = some (.int .i64 0) := (blk_cell BK401.out 2).trans rfl; have hfz14_0 := blk_frozen BK401.out 0; have hfz14_1 := blk_frozen BK401.out 1; have hfz14_2 := blk_frozen BK401.out 2) | ((with_reducible refine gc_ 85 rfl ?_); refine gL_ 17 Tryz.func85 #[.agg #[.int .i64 ((rd_T37 l0_0 x12_1).f0), .int .i64 ((rd_T37 l0_0 x12_1).f1), .int .i64 ((rd_T37 l0_0 x12_1).f2)]] ?_; (with_reducible refine (spec_pzClue.calls ((rd_T37 l0_0 x12_1).f0) ((rd_T37 l0_0 x12_1).f1) ((rd_T37 l0_0 x12_1).f2) true _ A10.out).mono ?_); rintro e w15 ⟨rfl, hb⟩; refine ⟨_, rfl, ?_⟩; replace BK399 := bb_ BK399 z13_5_ hb; replace BK401 := Aside0.mk (blk_below (g := gb401) (o := .cells #[.int .i64 ((rd_T37 l0_0 x12_1).f0), .int .i64 ((rd_T37 l0_0 x12_1).f1), .int .i64 ((rd_T37 l0_0 x12_1).f2)] 37 (0, 0)) z13_4_ hb); replace HB := Aside0.mk (below_step (by repeat (first | (with_reducible first | exact HB.out | apply below_alloc | apply pw_below_drewN | apply below_drew1 | refine below_set ?_ GE399.out | refine below_set ?_ GE401.out) | exact HB.out)) hb)))
     go_roundg k1
     case measure => have := HK1.out; omega
     case rel => exact ⟨(wrap64 (x12_1 + 1)), zV_, H', ⟨by have := HK1.out; omega⟩, ⟨b_ BK399.out⟩, ⟨by repeat (first | (with_reducible first | exact HB.out | apply below_alloc | apply pw_below_drewN | apply below_drew1 | refine below_set ?_ GE399.out | refine below_set ?_ GE401.out) | exact HB.out)⟩⟩
   replace H := bf_ c11 H; obtain ⟨rfl, H⟩ := H
   obtain rfl := Option.some.inj H
   have p400 : 0 ≤ (x12_1 : Int) := of_decide_eq_true zS_
   have q400 : x12_1 < (l0_0.length : Int) := of_decide_eq_true zS_
   obtain ⟨ad400, e400, hx400_0, hx400_1, hx400_2⟩ := at_T37 HR0_0.out x12_1 p400 q400
   cases e400
   replace hx400_0 := (HB.out.cell (World.block_lt_of_cell? w _ hx400_0)).trans hx400_0
   replace hx400_1 := (HB.out.cell (World.block_lt_of_cell? w _ hx400_1)).trans hx400_1
   replace hx400_2 := (HB.out.cell (World.block_lt_of_cell? w _ hx400_2)).trans hx400_2
   replace p400 := eq_true p400
   replace q400 := eq_true q400
   go_wp2_with (first | (refine bx_ 4 #[.int .i64 0, .int .i64 0, .int .i64 0] 37 ?_; intro gb401 hg w16 hbox hb; have BK401 := Aside0.mk (hbox); have GW401 : Aside0 (w.heap.size ≤ gb401) := bs_ hg z13_7_; have GE401 := GW401; replace HB := Aside0.mk (below_step z13_7_ hb); have NB399_401 := nl_ BK399 z13_9_ hg; have NB401_399 := ns_ NB399_401; replace BK399 := bb_ BK399 z13_9_ hb; clear hb hbox hg; have hnb17 := NB401_399.out; have hnc17 := NB399_401.out; have hcz18_0 : w16.cell? ⟨gb401, 0, none⟩ = some (.int .i64 0) := (blk_cell BK401.out 0).trans rfl; have hcz18_1 : w16.cell? ⟨gb401, 1, none⟩ = some (.int .i64 0) := (blk_cell BK401.out 1).trans rfl; have hcz18_2 : w16.cell? ⟨gb401, 2, none⟩ = some (.int .i64 0) := (blk_cell BK401.out 2).trans rfl; have hfz18_0 := blk_frozen BK401.out 0; have hfz18_1 := blk_frozen BK401.out 1; have hfz18_2 := blk_frozen BK401.out 2) | ((with_reducible refine gc_ 85 rfl ?_); refine gL_ 17 Tryz.func85 #[.agg #[.int .i64 ((rd_T37 l0_0 x12_1).f0), .int .i64 ((rd_T37 l0_0 x12_1).f1), .int .i64 ((rd_T37 l0_0 x12_1).f2)]] ?_; (with_reducible refine (spec_pzClue.calls ((rd_T37 l0_0 x12_1).f0) ((rd_T37 l0_0 x12_1).f1) ((rd_T37 l0_0 x12_1).f2) false _ A10.out).mono ?_); rintro e w19 ⟨rfl, hb⟩; refine ⟨_, rfl, ?_⟩; replace BK399 := bb_ BK399 z13_5_ hb; replace BK401 := Aside0.mk (blk_below (g := gb401) (o := .cells #[.int .i64 ((rd_T37 l0_0 x12_1).f0), .int .i64 ((rd_T37 l0_0 x12_1).f1), .int .i64 ((rd_T37 l0_0 x12_1).f2)] 37 (0, 0)) z13_4_ hb); replace HB := Aside0.mk (below_step (by repeat (first | (with_reducible first | exact HB.out | apply below_alloc | apply pw_below_drewN | apply below_drew1 | refine below_set ?_ GE399.out | refine below_set ?_ GE401.out) | exact HB.out)) hb)))
   go_ret
   exact ⟨zR_, by repeat (first | (with_reducible first | exact HB.out | apply below_alloc | apply pw_below_drewN | apply below_drew1 | refine below_set ?_ GE399.out | refine below_set ?_ GE401.out) | exact HB.out)⟩

/-! ### spec_tkNumber: function 109 -/
def spec_tkNumber.l0 : Nat → ByteArray → Int → Int → Option (Int)
 | 0, _, _, _ => none
 | k + 1, x0, x3, x4 => if x4 < (x0.size : Int) then (if 0 ≤ x4 then (spec_tkNumber.l0 k x0 (wrap64 ((wrap64 (x3 * 10)) + (((bt x0 x4) - 48) % 256))) (wrap64 (x4 + 1))) else (none)) else (some x3)
def spec_tkNumber.f (k : Nat) (a0 : ByteArray) : Option (Int) := spec_tkNumber.l0 k a0 0 0
theorem spec_tkNumber.mono_l : ∀ k, (∀ y0 y1 y2, LeO (spec_tkNumber.l0 k y0 y1 y2) (spec_tkNumber.l0 (k + 1) y0 y1 y2))
 | 0 => fun _ _ _ r h => by simp [spec_tkNumber.l0] at h
 | k + 1 => by
  have ih0 := spec_tkNumber.mono_l k
  intro y0 y1 y2
  unfold spec_tkNumber.l0
  repeat' first
  | (with_reducible exact ih0 _ _ _)
  | (with_reducible exact LeO.refl _)
  | (with_reducible exact LeO.none _)
  | (with_reducible refine LeO.ite ?_ ?_)
  | (with_reducible refine LeO.bind ?_ (fun _ => ?_))
  | exact LeO.none _
  | refine LeO.ite ?_ ?_
  | refine LeO.bind ?_ (fun _ => ?_)
theorem spec_tkNumber.mono : ∀ a0 k, LeO (spec_tkNumber.f k a0) (spec_tkNumber.f (k + 1) a0) := by
 intro a0 k
 have ih0 := spec_tkNumber.mono_l k
 unfold spec_tkNumber.f
 repeat' first
  | (with_reducible exact ih0 _ _ _)
  | (with_reducible exact LeO.refl _)
  | (with_reducible exact LeO.none _)
  | (with_reducible refine LeO.ite ?_ ?_)
  | (with_reducible refine LeO.bind ?_ (fun _ => ?_))
  | exact LeO.none _
  | refine LeO.ite ?_ ?_
  | refine LeO.bind ?_ (fun _ => ?_)
set_option maxHeartbeats 8000000 in
set_option maxRecDepth 100000 in
theorem spec_tkNumber.calls (k : Nat) (a0 : ByteArray) (r : Int) (w : World) (h : spec_tkNumber.f k a0 = some r) :
 Calls Tryz.prog 109 #[.string a0] w fun e w' => e = .returned (.int .i64 r) ∧ Drawn0 w w' := by
 unfold spec_tkNumber.f at h
 have H := h
 clear h
 have H' := Aside0.mk H
 clear H
 go_enter Tryz.func109, Tryz.ntmps109
 go_wp2
 go_loopg [3, 4] k (fun kq v3 v4 w' => ∃ (x3_1 : Int) (x4_1 : Int), v3 = .int .i64 x3_1 ∧ v4 = .int .i64 x4_1 ∧ Aside0 (spec_tkNumber.l0 kq a0 x3_1 x4_1 = some r) ∧ Aside0 (kq ≤ k) ∧ Drawn0 w w')
 case atStart => exact ⟨(0), (0), zV_, zV_, H', ⟨Nat.le_refl _⟩, by repeat (first | exact Drawn0.refl _ | apply Drawn0.step)⟩
 case round =>
  clear H'
  try clear c1
  obtain ⟨x3_1, x4_1, rfl, rfl, HA, HK1, ⟨m1, rfl⟩⟩ := hrel
  cases gk with
  | zero => exact absurd HA.out (by simp [spec_tkNumber.l0])
  | succ k1 =>
   have H := HA.out
   clear HA
   simp only [spec_tkNumber.l0] at H
   by_cases c2 : x4_1 < (a0.size : Int)
   rotate_left
   · rw [if_neg c2] at H
     have c2b0 := decide_eq_false c2
     clear c2
     obtain rfl := Option.some.inj H
     go_wp2
     go_ret
     exact ⟨by first | rfl | (simp; done) | (simp [*]; done), by repeat (first | exact Drawn0.refl _ | apply Drawn0.step)⟩
   rw [if_pos c2] at H
   have c2b0 := decide_eq_true c2
   clear c2
   replace H := gd_ H; obtain ⟨c3, H⟩ := H
   have c3b0 : decide (0 ≤ x4_1) = true := decide_eq_true c3
   clear c3
   have H' := Aside0.mk H
   clear H
   have p4 : 0 ≤ (x4_1 : Int) := of_decide_eq_true zS_
   have q4 : x4_1 < (a0.size : Int) := of_decide_eq_true zS_
   have hx4 := bt_at a0 x4_1
   replace p4 := eq_true p4
   replace q4 := eq_true q4
   go_wp2
   go_roundg k1
   case measure => have := HK1.out; omega
   case rel => exact ⟨(wrap64 ((wrap64 (x3_1 * 10)) + (((bt a0 x4_1) - 48) % 256))), (wrap64 (x4_1 + 1)), zV_, zV_, H', ⟨by have := HK1.out; omega⟩, by repeat (first | exact Drawn0.refl _ | apply Drawn0.step)⟩

/-! ### spec_pzFits: function 86 -/
def spec_pzFits.f (k : Nat) (a0_0 : Int) (a0_1 : Int) (a0_2 : Int) (a1 : ByteArray) : Option (Bool) := if a0_0 = 5 then ((spec_tkNumber.f k a1).bind fun t404 => (if a0_2 = 0 then (none) else (some ((Int.tmod t404 a0_2) == 0)))) else ((spec_pzValue.f k a0_0 a0_1 a1).bind fun t405 => (some (t405 == a0_2)))
theorem spec_pzFits.mono : ∀ a0 a1 a2 a3 k, LeO (spec_pzFits.f k a0 a1 a2 a3) (spec_pzFits.f (k + 1) a0 a1 a2 a3) := by
 intro a0 a1 a2 a3 k
 unfold spec_pzFits.f
 have m1_ := @spec_pzValue.mono
 have m2_ := @spec_tkNumber.mono
 exact zM_
set_option maxHeartbeats 8000000 in
set_option maxRecDepth 100000 in
theorem spec_pzFits.calls (k : Nat) (a0_0 : Int) (a0_1 : Int) (a0_2 : Int) (a1 : ByteArray) (r : Bool) (w : World) (h : spec_pzFits.f k a0_0 a0_1 a0_2 a1 = some r) :
 Calls Tryz.prog 86 #[.agg #[.int .i64 a0_0, .int .i64 a0_1, .int .i64 a0_2], .string a1] w fun e w' => e = .returned (.bool r) ∧ Below w.heap.size w w' := by
 have hu37 := Tryz.underlying37
 have HB := Aside0.mk (Below.refl w.heap.size w)
 unfold spec_pzFits.f at h
 have H := h
 clear h
 by_cases c3 : a0_0 = 5
 · obtain ⟨H, c3b0, c3b1⟩ := ep_ c3 H
   clear c3
   replace H := bd_ H; obtain ⟨t404, A4, H⟩ := H
   replace H := nz_ H; obtain ⟨c5, H⟩ := H
   have c5b0 : (a0_2 == 0) = false := beq_eq_false_iff_ne.mpr c5
   have c5b1 : (a0_2 != 0) = true := bne_iff_ne.mpr c5
   obtain rfl := Option.some.inj H
   go_enter Tryz.func86, Tryz.ntmps86
   go_wp2_with (first | (refine bx_ 2 #[.int .i64 a0_0, .int .i64 a0_1, .int .i64 a0_2] 37 ?_; intro gb403 hg w6 hbox hb; have BK403 := Aside0.mk (hbox); have GW403 : Aside0 (w.heap.size ≤ gb403) := bs_ hg zB_; have GE403 := GW403; replace HB := Aside0.mk (below_step zB_ hb); clear hb hbox hg; have hcz7_0 : w6.cell? ⟨gb403, 0, none⟩ = some (.int .i64 a0_0) := (blk_cell BK403.out 0).trans rfl; have hcz7_1 : w6.cell? ⟨gb403, 1, none⟩ = some (.int .i64 a0_1) := (blk_cell BK403.out 1).trans rfl; have hcz7_2 : w6.cell? ⟨gb403, 2, none⟩ = some (.int .i64 a0_2) := (blk_cell BK403.out 2).trans rfl; have hfz7_0 := blk_frozen BK403.out 0; have hfz7_1 := blk_frozen BK403.out 1; have hfz7_2 := blk_frozen BK403.out 2) | (go_at_call 109; (with_reducible refine (spec_tkNumber.calls k a1 t404 _ A4.out).mono ?_); rintro e w' ⟨rfl, ⟨nd, rfl⟩⟩; (try first | exact ⟨rfl, _, World.drewN_drewN _ _ _⟩ | exact ⟨rfl, _, Eq.trans (World.drewN_drewN _ _ _) (congrArg (World.drewN _) (Nat.add_assoc _ _ _))⟩)))
   repeat (go_quiet (first | (go_at_call 109; (with_reducible refine (spec_tkNumber.calls k a1 t404 _ A4.out).mono ?_); rintro e w' ⟨rfl, ⟨nd, rfl⟩⟩; (try first | exact ⟨rfl, _, World.drewN_drewN _ _ _⟩ | exact ⟨rfl, _, Eq.trans (World.drewN_drewN _ _ _) (congrArg (World.drewN _) (Nat.add_assoc _ _ _))⟩))); try go_wp2_with (first | (refine bx_ 2 #[.int .i64 a0_0, .int .i64 a0_1, .int .i64 a0_2] 37 ?_; intro gb403 hg w6 hbox hb; have BK403 := Aside0.mk (hbox); have GW403 : Aside0 (w.heap.size ≤ gb403) := bs_ hg zB_; have GE403 := GW403; replace HB := Aside0.mk (below_step zB_ hb); clear hb hbox hg; have hcz7_0 : w6.cell? ⟨gb403, 0, none⟩ = some (.int .i64 a0_0) := (blk_cell BK403.out 0).trans rfl; have hcz7_1 : w6.cell? ⟨gb403, 1, none⟩ = some (.int .i64 a0_1) := (blk_cell BK403.out 1).trans rfl; have hcz7_2 : w6.cell? ⟨gb403, 2, none⟩ = some (.int .i64 a0_2) := (blk_cell BK403.out 2).trans rfl; have hfz7_0 := blk_frozen BK403.out 0; have hfz7_1 := blk_frozen BK403.out 1; have hfz7_2 := blk_frozen BK403.out 2) | (go_at_call 109; (with_reducible refine (spec_tkNumber.calls k a1 t404 _ A4.out).mono ?_); rintro e w' ⟨rfl, ⟨nd, rfl⟩⟩; (try first | exact ⟨rfl, _, World.drewN_drewN _ _ _⟩ | exact ⟨rfl, _, Eq.trans (World.drewN_drewN _ _ _) (congrArg (World.drewN _) (Nat.add_assoc _ _ _))⟩))))
   go_ret
   exact ⟨zR_, by repeat (first | (with_reducible first | exact HB.out | apply below_alloc | apply pw_below_drewN | apply below_drew1 | refine below_set ?_ GE403.out) | exact HB.out)⟩
 obtain ⟨H, c3b0, c3b1⟩ := en_ c3 H
 replace H := bd_ H; obtain ⟨t405, A8, H⟩ := H
 obtain rfl := Option.some.inj H
 go_enter Tryz.func86, Tryz.ntmps86
 go_wp2_with (first | (refine bx_ 2 #[.int .i64 a0_0, .int .i64 a0_1, .int .i64 a0_2] 37 ?_; intro gb403 hg w9 hbox hb; have BK403 := Aside0.mk (hbox); have GW403 : Aside0 (w.heap.size ≤ gb403) := bs_ hg zB_; have GE403 := GW403; replace HB := Aside0.mk (below_step zB_ hb); clear hb hbox hg; have hcz10_0 : w9.cell? ⟨gb403, 0, none⟩ = some (.int .i64 a0_0) := (blk_cell BK403.out 0).trans rfl; have hcz10_1 : w9.cell? ⟨gb403, 1, none⟩ = some (.int .i64 a0_1) := (blk_cell BK403.out 1).trans rfl; have hcz10_2 : w9.cell? ⟨gb403, 2, none⟩ = some (.int .i64 a0_2) := (blk_cell BK403.out 2).trans rfl; have hfz10_0 := blk_frozen BK403.out 0; have hfz10_1 := blk_frozen BK403.out 1; have hfz10_2 := blk_frozen BK403.out 2) | (go_at_call 104; (with_reducible refine (spec_pzValue.calls k a0_0 a0_1 a1 t405 _ A8.out).mono ?_); rintro e w' ⟨rfl, ⟨nd, rfl⟩⟩; (try first | exact ⟨rfl, _, World.drewN_drewN _ _ _⟩ | exact ⟨rfl, _, Eq.trans (World.drewN_drewN _ _ _) (congrArg (World.drewN _) (Nat.add_assoc _ _ _))⟩)))
 repeat (go_quiet (first | (go_at_call 104; (with_reducible refine (spec_pzValue.calls k a0_0 a0_1 a1 t405 _ A8.out).mono ?_); rintro e w' ⟨rfl, ⟨nd, rfl⟩⟩; (try first | exact ⟨rfl, _, World.drewN_drewN _ _ _⟩ | exact ⟨rfl, _, Eq.trans (World.drewN_drewN _ _ _) (congrArg (World.drewN _) (Nat.add_assoc _ _ _))⟩))); try go_wp2_with (first | (refine bx_ 2 #[.int .i64 a0_0, .int .i64 a0_1, .int .i64 a0_2] 37 ?_; intro gb403 hg w9 hbox hb; have BK403 := Aside0.mk (hbox); have GW403 : Aside0 (w.heap.size ≤ gb403) := bs_ hg zB_; have GE403 := GW403; replace HB := Aside0.mk (below_step zB_ hb); clear hb hbox hg; have hcz10_0 : w9.cell? ⟨gb403, 0, none⟩ = some (.int .i64 a0_0) := (blk_cell BK403.out 0).trans rfl; have hcz10_1 : w9.cell? ⟨gb403, 1, none⟩ = some (.int .i64 a0_1) := (blk_cell BK403.out 1).trans rfl; have hcz10_2 : w9.cell? ⟨gb403, 2, none⟩ = some (.int .i64 a0_2) := (blk_cell BK403.out 2).trans rfl; have hfz10_0 := blk_frozen BK403.out 0; have hfz10_1 := blk_frozen BK403.out 1; have hfz10_2 := blk_frozen BK403.out 2) | (go_at_call 104; (with_reducible refine (spec_pzValue.calls k a0_0 a0_1 a1 t405 _ A8.out).mono ?_); rintro e w' ⟨rfl, ⟨nd, rfl⟩⟩; (try first | exact ⟨rfl, _, World.drewN_drewN _ _ _⟩ | exact ⟨rfl, _, Eq.trans (World.drewN_drewN _ _ _) (congrArg (World.drewN _) (Nat.add_assoc _ _ _))⟩))))
 go_ret
 exact ⟨zR_, by repeat (first | (with_reducible first | exact HB.out | apply below_alloc | apply pw_below_drewN | apply below_drew1 | refine below_set ?_ GE403.out) | exact HB.out)⟩

/-! ### spec_pzAll: function 88 -/
def spec_pzLook.bad (k : Nat) (b : ByteArray) (x : S37) : Option Bool := (spec_pzFits.f k x.f0 x.f1 x.f2 b).map (!·)
def spec_pzLook.leaf (k : Nat) (l : List S37) (b : ByteArray) (out : List ByteArray) : Option (List ByteArray) := if out.length < 4096 then (Fn.anyO (spec_pzLook.bad k b) l).bind fun t => some (if t then out else out ++ [b]) else none
def spec_pzLook.dig (F : ByteArray → List ByteArray → Option (List ByteArray)) (k : Nat) (b : ByteArray) : Nat → Int → List ByteArray → Option (List ByteArray)
 | 0, _, out => some out
 | c + 1, n, out => (spec_l1Num.f k n).bind fun s => if b.size + s.size ≤ 4 then (if s.size = 1 then (F (b ++ s) out).bind fun o => spec_pzLook.dig F k b c (n + 1) o else none) else none
def spec_pzLook.f (k : Nat) (l : List S37) : Nat → ByteArray → List ByteArray → Option (List ByteArray)
 | 0, b, out => spec_pzLook.leaf k l b out
 | d + 1, b, out => spec_pzLook.dig (spec_pzLook.f k l d) k b 6 0 out
def spec_pzAll.f (k : Nat) (l0 : List S37) : Option (List ByteArray) := spec_pzLook.f k l0 4 ByteArray.empty []
theorem spec_pzLook.dig_mono {F G : ByteArray → List ByteArray → Option (List ByteArray)} (hF : ∀ b o, LeO (F b o) (G b o)) (k : Nat) (b : ByteArray) : ∀ c n out, LeO (spec_pzLook.dig F k b c n out) (spec_pzLook.dig G (k + 1) b c n out)
 | 0, _, _ => LeO.refl _
 | c + 1, n, out => by
  unfold spec_pzLook.dig
  refine LeO.bind (spec_l1Num.mono _ _) (fun s => LeO.ite (LeO.ite (LeO.bind (hF _ _) (fun o => spec_pzLook.dig_mono hF k b c _ _)) (LeO.refl _)) (LeO.refl _))
theorem spec_pzLook.mono (k : Nat) (l : List S37) : ∀ d b out, LeO (spec_pzLook.f k l d b out) (spec_pzLook.f (k + 1) l d b out)
 | 0, b, out => by
  unfold spec_pzLook.f spec_pzLook.leaf
  refine LeO.ite (LeO.bind (fun r hr => Fn.anyO_le (fun x r hr => ?_) l r hr) (fun _ => LeO.refl _)) (LeO.refl _)
  unfold spec_pzLook.bad at hr ⊢
  obtain ⟨t, ht, h⟩ := Option.map_eq_some_iff.mp hr
  exact Option.map_eq_some_iff.mpr ⟨t, spec_pzFits.mono _ _ _ _ _ t ht, h⟩
 | d + 1, b, out => spec_pzLook.dig_mono (fun b o => spec_pzLook.mono k l d b o) k b _ _ _
theorem spec_pzAll.mono : ∀ a0 k, LeO (spec_pzAll.f k a0) (spec_pzAll.f (k + 1) a0) := fun a0 k => spec_pzLook.mono k a0 _ _ _
theorem spec_pzLook.succ_ (n : Nat) (h : n < 4611686018427387904) : wrap64 ((n : Int) + 1) = ((n + 1 : Nat) : Int) := by simp [wrap64]; omega
theorem spec_pzLook.succv_ (n : Nat) (h : n < 4611686018427387904) : Value.int .i64 (wrap64 ((n : Int) + 1)) = Value.int .i64 ((n + 1 : Nat) : Int) := by rw [spec_pzLook.succ_ n h]
set_option maxHeartbeats 8000000 in
set_option maxRecDepth 100000 in
theorem spec_pzLook.calls (k : Nat) (A0 : Option Addr) (c0 : Nat) (l0 : List (S37)) (w0 : World) (g : Nat) (hr0 : Kd.C k37 w0 A0 l0.length l0) (hc0 : l0.length ≤ c0) (hg : w0.heap.size ≤ g) : ∀ (d : Nat) (b : ByteArray) (v : Value) (out r : List ByteArray) (w : World) (_ : b.size + d = 4) (_ : Below w0.heap.size w0 w) (_ : w.heap[g]? = some (.cells #[v] 45 (0, 0))) (_ : Kd.R Kd.string 9 w w0.heap.size (fun k => k ≠ g) v out) (_ : spec_pzLook.f k l0 d b out = some r),
 Calls Tryz.prog 110 #[.slice A0 l0.length c0, .string b, .pointer (some ⟨g, 0, none⟩)] w fun e w' => e = .returned (.tuple #[]) ∧ ∃ v', w'.heap[g]? = some (.cells #[v'] 45 (0, 0)) ∧ Kd.R Kd.string 9 w' w0.heap.size (fun k => k ≠ g) v' r ∧ Below w0.heap.size w0 w' := by
 have HR0 := Aside0.mk hr0
 have HC0 := Aside0.mk hc0
 have HG := Aside0.mk hg
 have hu26 := Tryz.underlying37
 clear hr0 hc0 hg
 intro d
 induction d with
 | zero =>
  intro b v out r w hd hb hk ho h
  have HB := Aside0.mk hb
  have BK := Aside0.mk hk
  have HO := Aside0.mk ho
  have c1 : decide ((b.size : Int) < 4) = false := decide_eq_false (by omega)
  have c2 : decide (b.size < 4) = false := decide_eq_false (by omega)
  unfold spec_pzLook.f spec_pzLook.leaf at h
  by_cases hl : out.length < 4096
  rotate_left
  · exact none_ (if_neg hl) h
  rw [if_pos hl] at h
  obtain ⟨t, ht, h⟩ := Option.bind_eq_some_iff.mp h
  obtain rfl := Option.some.inj h
  have HL := Aside0.mk hl
  have HA := Aside0.mk (show Fn.anyO (spec_pzLook.bad k b) (l0.drop 0) = some t from ht)
  clear hd hb hk ho h hl ht
  go_enter Tryz.func110, Tryz.ntmps110
  go_wp2
  go_loopg [25] (l0.length + 1) (fun kq v25 w' => ∃ j : Nat, v25 = .int .i64 (j : Int) ∧ Aside0 (j + kq = l0.length + 1) ∧ Aside0 (Fn.anyO (spec_pzLook.bad k b) (l0.drop j) = some t) ∧ Aside0 (w'.heap[g]? = some (.cells #[v] 45 (0, 0))) ∧ Aside0 (Kd.R Kd.string 9 w' w0.heap.size (fun k => k ≠ g) v out) ∧ Aside0 (Below w0.heap.size w0 w'))
  case atStart => exact ⟨0, rfl, ⟨by omega⟩, HA, BK, HO, HB⟩
  case round =>
   clear HA BK HO HB
   obtain ⟨j, rfl, HJ, HA, BK, HO, HB⟩ := hrel
   by_cases c : j < l0.length
   · obtain ⟨e, he, hbb⟩ := Fn.anyO_drop (spec_pzLook.bad k b) l0 z37 j c t HA.out
     obtain ⟨f, hf, hfe⟩ := Option.map_eq_some_iff.mp (show (spec_pzFits.f k (rd_T37 l0 (j : Int)).f0 (rd_T37 l0 (j : Int)).f1 (rd_T37 l0 (j : Int)).f2 b).map (!·) = some e from he)
     have HF := Aside0.mk hf
     have HBB := Aside0.mk hbb
     clear he hf hbb HA
     obtain ⟨ad1, e1, hx0, hx1, hx2⟩ := at_T37 HR0.out (j : Int) (by omega) (by omega)
     cases e1
     simp only [Int.toNat_natCast] at hx0 hx1 hx2
     replace hx0 := (HB.out.cell (World.block_lt_of_cell? w0 _ hx0)).trans hx0
     replace hx1 := (HB.out.cell (World.block_lt_of_cell? w0 _ hx1)).trans hx1
     replace hx2 := (HB.out.cell (World.block_lt_of_cell? w0 _ hx2)).trans hx2
     have p1 : (0 ≤ (j : Int)) = True := eq_true (by omega)
     have q1 : ((j : Int) < (l0.length : Int)) = True := eq_true (by omega)
     have d1 : decide ((j : Int) < (l0.length : Int)) = true := decide_eq_true (by omega)
     have d2 : decide (j < l0.length) = true := decide_eq_true c
     have hl0 := (HR0.out).2.1
     cases f with
     | false =>
      subst hfe
      have ht : t = true := by
       rcases HBB.out with ⟨_, e⟩ | ⟨e, _⟩
       · exact e
       cases e
      subst ht
      go_wp2_with (first | (refine bx_ 8 #[.int .i64 0, .int .i64 0, .int .i64 0] 37 ?_; intro gb hg w12 hbox hb; have hcz0 : w12.cell? ⟨gb, 0, none⟩ = some (.int .i64 0) := (blk_cell hbox 0).trans rfl; have hcz1 : w12.cell? ⟨gb, 1, none⟩ = some (.int .i64 0) := (blk_cell hbox 1).trans rfl; have hcz2 : w12.cell? ⟨gb, 2, none⟩ = some (.int .i64 0) := (blk_cell hbox 2).trans rfl; have hfz0 := blk_frozen hbox 0; have hfz1 := blk_frozen hbox 1; have hfz2 := blk_frozen hbox 2; have HGB := Aside0.mk (show wr.heap.size ≤ gb by rw [hg]; exact Nat.le_refl _); have HBX := Aside0.mk hb; clear hb hbox hg) | (go_at_call 86; (with_reducible refine (spec_pzFits.calls k _ _ _ b false _ HF.out).mono ?_); rintro e w15 ⟨rfl, hb⟩; have HBY := Aside0.mk (below_step (below_set (below_set (below_set HBX.out HGB.out) HGB.out) HGB.out) hb); clear hb))
      (first | go_end0 | ((try simp only [Exit.inBlock, Exit.then]); refine bodyPost_ret (results_none rfl _ _ _) rfl ?_))
      exact ⟨rfl, v, blk_below BK.out HBY.out, Kd.R_below HO.out HBY.out, below_step HB.out HBY.out⟩
     | true =>
      subst hfe
      have ht := HBB.out
      go_wp2_with (first | (refine bx_ 8 #[.int .i64 0, .int .i64 0, .int .i64 0] 37 ?_; intro gb hg w12 hbox hb; have hcz0 : w12.cell? ⟨gb, 0, none⟩ = some (.int .i64 0) := (blk_cell hbox 0).trans rfl; have hcz1 : w12.cell? ⟨gb, 1, none⟩ = some (.int .i64 0) := (blk_cell hbox 1).trans rfl; have hcz2 : w12.cell? ⟨gb, 2, none⟩ = some (.int .i64 0) := (blk_cell hbox 2).trans rfl; have hfz0 := blk_frozen hbox 0; have hfz1 := blk_frozen hbox 1; have hfz2 := blk_frozen hbox 2; have HGB := Aside0.mk (show wr.heap.size ≤ gb by rw [hg]; exact Nat.le_refl _); have HBX := Aside0.mk hb; clear hb hbox hg) | (go_at_call 86; (with_reducible refine (spec_pzFits.calls k _ _ _ b true _ HF.out).mono ?_); rintro e w15 ⟨rfl, hb⟩; have HBY := Aside0.mk (below_step (below_set (below_set (below_set HBX.out HGB.out) HGB.out) HGB.out) hb); clear hb))
      go_roundg (gk - 1)
      case measure => have := HJ.out; omega
      case rel =>
       have hnx : Fn.anyO (spec_pzLook.bad k b) (l0.drop (j + 1)) = some t := by
        rcases HBB.out with ⟨e, _⟩ | ⟨_, h⟩
        · cases e
        exact h
       exact ⟨j + 1, by go_num, ⟨by have := HJ.out; omega⟩, ⟨hnx⟩, ⟨blk_below BK.out HBY.out⟩, ⟨Kd.R_below HO.out HBY.out⟩, ⟨below_step HB.out HBY.out⟩⟩
   have d1 : decide ((j : Int) < (l0.length : Int)) = false := decide_eq_false (by omega)
   have d2 : decide (j < l0.length) = false := decide_eq_false c
   have ht : t = false := by
    have h := HA.out
    rw [List.drop_eq_nil_of_le (by omega)] at h
    exact (Option.some.inj h).symm
   subst ht
   have hcell := blk_cell BK.out 0
   have hfz := blk_frozen BK.out 0
   go_wp2_with (first | ((with_reducible refine gate_builtin (b := .append) (xs := #[.tmp 37, .tmp 39]) rfl ?_); at_builtin; refine Kd.R_append Kd.string (w0 := w0) w0.heap.size rfl (.tmp 37) (.tmp 39) 45 9 (.string ByteArray.empty) 16 rfl Tryz.underlying45 info9 rfl (by decide) (by omega) v out b [.string b] (fun k => k ≠ g) (fun _ => False) rfl rfl ?aP (fun _ hk => hk.elim) ?aF ?aO ?aB ?aS ?aL ?_; (case aP => exact rfl); (case aF => exact fun k hk he => by have := blk_lt BK.out; omega); (case aO => exact HO.out); (case aB => exact HB.out); (case aS => exact HB.out.size); (case aL => have := HL.out; omega); intro v1 w4 ho hb hg hat; obtain ⟨Av, cv, rfl⟩ := Kd.R_slice ho; have e_ : (out ++ [b]).length = out.length + 1 := (by simp); rw [e_] at ho ⊢; clear e_; have HO3 := Aside0.mk ho; have HB3 := Aside0.mk hb; have BK3 := Aside0.mk (blk_grown BK.out hg (fun he => HO.out.1 _ he.symm rfl)); have hcell3 := blk_cell BK3.out 0; have hfz3 := blk_frozen BK3.out 0; clear ho hb hg hat))
   (first | go_end0 | ((try simp only [Exit.inBlock, Exit.then]); refine bodyPost_ret (results_none rfl _ _ _) rfl ?_))
   exact ⟨rfl, _, blk_put BK3.out 0 _ rfl, Kd.R_far HO3.out (fun k hk => hk) _, below_set HB3.out HG.out⟩
 | succ d ih =>
  intro b v out r w hd hb hk ho h
  have HB := Aside0.mk hb
  have BK := Aside0.mk hk
  have HO := Aside0.mk ho
  have IH := Aside0.mk ih
  have H := Aside0.mk (show spec_pzLook.dig (spec_pzLook.f k l0 d) k b (6 - 0) ((0 : Nat) : Int) out = some r from h)
  have c1 : decide ((b.size : Int) < 4) = true := decide_eq_true (by omega)
  have c2 : decide (b.size < 4) = true := decide_eq_true (by omega)
  have HD := Aside0.mk hd
  clear hb hk ho h ih hd
  go_enter Tryz.func110, Tryz.ntmps110
  go_wp2
  go_loopg [6] 7 (fun kq v6 w' => ∃ (i : Nat) (o : List ByteArray) (v : Value), v6 = .int .i64 (i : Int) ∧ Aside0 (i + kq = 7) ∧ Aside0 (spec_pzLook.dig (spec_pzLook.f k l0 d) k b (6 - i) (i : Int) o = some r) ∧ Aside0 (w'.heap[g]? = some (.cells #[v] 45 (0, 0))) ∧ Aside0 (Kd.R Kd.string 9 w' w0.heap.size (fun k => k ≠ g) v o) ∧ Aside0 (Below w0.heap.size w0 w'))
  case atStart => exact ⟨0, out, v, rfl, ⟨by omega⟩, H, BK, HO, HB⟩
  case round =>
   clear H BK HO HB
   obtain ⟨i, o, v, rfl, HI, HA, BK, HO, HB⟩ := hrel
   by_cases c : i < 6
   · have d1 : decide ((i : Int) ≤ 5) = true := decide_eq_true (by omega)
     have d2 : decide (i ≤ 5) = true := decide_eq_true (by omega)
     have h := HA.out
     rw [show 6 - i = (6 - (i + 1)) + 1 by omega] at h
     unfold spec_pzLook.dig at h
     obtain ⟨s, hs, h⟩ := Option.bind_eq_some_iff.mp h
     by_cases hz : b.size + s.size ≤ 4
     rotate_left
     · exact none_ (if_neg hz) h
     rw [if_pos hz] at h
     by_cases hz1 : s.size = 1
     rotate_left
     · exact none_ (if_neg hz1) h
     rw [if_pos hz1] at h
     obtain ⟨o2, ho2, h⟩ := Option.bind_eq_some_iff.mp h
     have HS := Aside0.mk hs
     have HF := Aside0.mk ho2
     have HA2 := Aside0.mk (show spec_pzLook.dig (spec_pzLook.f k l0 d) k b (6 - (i + 1)) ((i + 1 : Nat) : Int) o2 = some r from h)
     have HZ := Aside0.mk (show (b ++ s).size + d = 4 by have := HD.out; rw [ByteArray.size_append]; omega)
     have hsz : b.size + s.size ≤ 9223372036854775807 := by omega
     have z0 := eq_true hsz
     have z1 : decide (b.size + s.size ≤ 9223372036854775807) = true := decide_eq_true hsz
     have z2 : (9223372036854775807 < b.size + s.size) = False := eq_false (Nat.not_lt.2 hsz)
     have HC := Aside0.mk c
     clear HA h hs hz hz1 ho2 hsz c
     go_wp2_with (first | (go_at_call 99; (with_reducible refine (spec_l1Num.calls k (i : Int) s _ HS.out).mono ?_); rintro e w15 ⟨rfl, hb⟩; have HB2 := Aside0.mk (below_step HB.out hb); have BK2 := Aside0.mk (blk_below BK.out hb); have HO2 := Aside0.mk (Kd.R_below HO.out hb); clear hb) | (go_at_call 110; (with_reducible refine (IH.out (b ++ s) v o o2 _ HZ.out HB2.out BK2.out HO2.out HF.out).mono ?_); rintro e w16 ⟨rfl, v2, hk, ho, hb⟩; have HB3 := Aside0.mk hb; have BK3 := Aside0.mk hk; have HO3 := Aside0.mk ho; clear hb hk ho))
     go_roundg (gk - 1)
     case measure => have := HI.out; have := HC.out; omega
     case rel => exact ⟨i + 1, o2, v2, spec_pzLook.succv_ i (by have := HC.out; omega), ⟨by have := HI.out; have := HC.out; omega⟩, HA2, BK3, HO3, HB3⟩
   have d1 : decide ((i : Int) ≤ 5) = false := decide_eq_false (by omega)
   have d2 : decide (i ≤ 5) = false := decide_eq_false (by omega)
   have hr : o = r := by
    have h := HA.out
    rw [show 6 - i = 0 by omega] at h
    exact Option.some.inj h
   subst hr
   go_wp2
   (first | go_end0 | ((try simp only [Exit.inBlock, Exit.then]); refine bodyPost_ret (results_none rfl _ _ _) rfl ?_))
   exact ⟨rfl, v, BK.out, HO.out, HB.out⟩
set_option maxHeartbeats 8000000 in
set_option maxRecDepth 100000 in
theorem spec_pzAll.calls (k : Nat) (A0 : Option Addr) (c0 : Nat) (l0 : List (S37)) (r : List ByteArray) (w : World) (hr0 : Kd.C k37 w A0 l0.length l0) (hc0 : l0.length ≤ c0) (h : spec_pzAll.f k l0 = some r) :
 Calls Tryz.prog 88 #[.slice A0 l0.length c0] w fun e w' => ∃ v0_ : Value, e = .returned (v0_) ∧ Kd.R Kd.string 9 w' w.heap.size (fun _ => True) v0_ r ∧ Below w.heap.size w w' := by
 have HR0 := Aside0.mk hr0
 have HC0 := Aside0.mk hc0
 have H := Aside0.mk (show spec_pzLook.f k l0 4 ⟨#[]⟩ [] = some r from h)
 clear hr0 hc0 h
 go_enter Tryz.func88, Tryz.ntmps88
 go_wp2_with (first | (refine bx_ 3 #[.slice none 0 0] 45 ?_; intro gb hg w12 hbox hb; have HGB := Aside0.mk (show w.heap.size ≤ gb by rw [hg]; exact Nat.le_refl _); have BK := Aside0.mk hbox; have HB := Aside0.mk hb; clear hb hbox hg) | (go_at_call 110; (with_reducible refine (spec_pzLook.calls k A0 c0 l0 w gb HR0.out HC0.out HGB.out 4 ⟨#[]⟩ (.slice none 0 0) [] r _ rfl HB.out BK.out (Kd.R_nil _ _ _ _ _) H.out).mono ?_); rintro e w16 ⟨rfl, v2, hk, ho, hb⟩; have HB3 := Aside0.mk hb; have hcell := blk_cell hk 0; have HO3 := Aside0.mk ho; clear hb hk ho))
 go_ret
 exact ⟨_, rfl, Kd.R_mono HO3.out (fun _ _ => trivial), HB3.out⟩

/-! ### spec_pzSolved: function 82 -/
def spec_pzSolved.f (k : Nat) (l0 : List (S37)) : Option (Bool) := (spec_pzAll.f k l0).bind fun t406 => (some ((t406.length : Int) == 1))
theorem spec_pzSolved.mono : ∀ a0 k, LeO (spec_pzSolved.f k a0) (spec_pzSolved.f (k + 1) a0) := by
 intro a0 k
 unfold spec_pzSolved.f
 have m1_ := @spec_pzAll.mono
 exact zM_
set_option maxHeartbeats 8000000 in
set_option maxRecDepth 100000 in
theorem spec_pzSolved.calls (k : Nat) (A0 : Option Addr) (c0 : Nat) (l0 : List (S37)) (r : Bool) (w : World) (hr0 : Kd.C k37 w A0 l0.length l0) (hc0 : l0.length ≤ c0) (h : spec_pzSolved.f k l0 = some r) :
 Calls Tryz.prog 82 #[.slice A0 l0.length c0] w fun e w' => e = .returned (.bool r) ∧ Below w.heap.size w w' := by
 have HR0 := Aside0.mk hr0
 have HC0 := Aside0.mk hc0
 clear hr0 hc0
 have HB := Aside0.mk (Below.refl w.heap.size w)
 unfold spec_pzSolved.f at h
 have H := h
 clear h
 replace H := bd_ H; obtain ⟨t406, A2, H⟩ := H
 obtain rfl := Option.some.inj H
 go_enter Tryz.func82, Tryz.ntmps82
 go_wp2_with (first | ((with_reducible refine gc_ 88 rfl ?_); refine gL_ 4 Tryz.func88 #[.slice A0 l0.length c0] ?_; (with_reducible refine (spec_pzAll.calls k _ _ l0 t406 _ ?side1 ?side2 A2.out).mono ?_); (case side1 => repeat (first | exact HR0.out | (with_reducible refine Kd.C_alloc ?_ _) | (with_reducible refine Kd.C_drewN ?_ _) | (with_reducible refine Kd.C_drew ?_))); (case side2 => exact HC0.out); rintro e w3 ⟨v407, rfl, ho0, hb⟩; refine ⟨_, rfl, ?_⟩; have HO408 := Aside0.mk (Kd.R_lower ho0 (below_size zB_)); replace HB := Aside0.mk (below_step zB_ hb); obtain ⟨Ao4, co4, eo4⟩ := Kd.R_slice HO408.out; subst eo4))
 go_ret
 exact ⟨zR_, zB_⟩

theorem z14_0_ {p : Prop} (h : p := by repeat (first | (with_reducible first | exact HB.out | apply below_alloc | apply pw_below_drewN | apply below_drew1 | refine below_set ?_ GE440.out) | exact HB.out)) : p := h
theorem z14_1_ {p : Prop} (h : p := by repeat (first | (with_reducible first | exact HB.out | apply below_alloc | apply pw_below_drewN | apply below_drew1 | refine below_set ?_ GE426.out | refine below_set ?_ GE427.out) | exact HB.out)) : p := h
theorem z14_3_ {p : Prop} (h : p := by (try simp only [List.map_toArray, List.map_cons, List.map_nil]); first | done | rfl | (simp only [List.length_drop, List.length_take]; rfl)) : p := h
theorem z14_4_ {p : Prop} (h : p := by exact b_ BK426.out) : p := h
theorem z14_5_ {p : Prop} (h : p := by exact rr_ HO_4.out) : p := h
theorem z14_6_ {p : Prop} (h : p := by exact b_ BK427.out) : p := h
theorem z14_7_ {p : Prop} (h : p := by exact b_ BK440.out) : p := h
theorem z14_9_ {p : Prop} (h : p := by refine b_ ?_; refine blk_put (cs := #[.slice none 0 0]) ?_ 0 _ rfl; exact b_ BK427.out) : p := h
theorem z14_10_ {p : Prop} (h : p := by repeat (first | (with_reducible first | exact HB.out | apply below_alloc | apply pw_below_drewN | apply below_drew1 | refine below_set ?_ GE426.out) | exact HB.out)) : p := h
theorem z14_12_ {p : Prop} (h : p := by exact rr_ HO450.out) : p := h

/-! ### spec_pzWithout: function 83 -/
def spec_pzWithout.f (l0 : List (S37)) (a1 : Int) : Option ((List (S37))) := (some (([] : List (S37)) : List (S37))).bind fun y409 => (if 0 ≤ a1 then (if a1 ≤ (l0.length : Int) then ((some (l0.take (a1 : Int).toNat : List (S37))).bind fun y412 => (if y409.length + y412.length < 5864062014805 then ((some (y409 ++ y412 : List (S37))).bind fun y416 => (if 0 ≤ (wrap64 (a1 + 1)) then (if (wrap64 (a1 + 1)) ≤ (l0.length : Int) then ((some (l0.drop ((wrap64 (a1 + 1)) : Int).toNat : List (S37))).bind fun y419 => (if y416.length + y419.length < 5864062014805 then (some (y416 ++ y419)) else (none))) else (none)) else (none))) else (none))) else (none)) else (none))
def spec_pzWithout.T1 : Bool × List (List Nat × List Nat) := (true, [([], []), ([], []), ([], []), ([1, 2], [1, 2]), ([0, 3], [0, 3]), ([], []), ([], []), ([6], [6]), ([5, 7], [5, 7]), ([4, 8, 4], [4, 8]), ([9, 9, 0, 1, 2, 3, 4, 5, 6, 7, 8, 9], [9])])
def spec_pzWithout.B1 : List Nat := [0, 0, 0, 6, 15, 0, 0, 64, 224, 511, 1023]
theorem spec_pzWithout.tab1 : rtab .any (opsOf Tryz.f83 1) = spec_pzWithout.T1 := by kernel_rfl
theorem spec_pzWithout.bits1 : waitsOk spec_pzWithout.T1.2 spec_pzWithout.B1 = true := by kernel_rfl
set_option maxHeartbeats 8000000 in
set_option maxRecDepth 100000 in
theorem spec_pzWithout.calls (A0 : Option Addr) (c0 : Nat) (l0 : List (S37)) (a1 : Int) (r : List (S37)) (w : World) (hr0 : Kd.C k37 w A0 l0.length l0) (hc0 : l0.length ≤ c0) (h : spec_pzWithout.f l0 a1 = some r) :
 Calls Tryz.prog 83 #[.slice A0 l0.length c0, .int .i64 a1] w fun e w' => ∃ v0_ : Value, e = .returned (v0_) ∧ Kd.R k37 37 w' w.heap.size (fun _ => True) v0_ r ∧ Below w.heap.size w w' := by
 have HR0 := Aside0.mk hr0
 have HC0 := Aside0.mk hc0
 clear hr0 hc0
 have HB := Aside0.mk (Below.refl w.heap.size w)
 unfold spec_pzWithout.f at h
 have H := h
 clear h
 obtain ⟨y409, hy409⟩ : ∃ y_ : List (S37), y_ = (([] : List (S37))) := ⟨_, rfl⟩
 replace H : (if 0 ≤ a1 then (if a1 ≤ (l0.length : Int) then ((some (l0.take (a1 : Int).toNat : List (S37))).bind fun y412 => (if y409.length + y412.length < 5864062014805 then ((some (y409 ++ y412 : List (S37))).bind fun y416 => (if 0 ≤ (wrap64 (a1 + 1)) then (if (wrap64 (a1 + 1)) ≤ (l0.length : Int) then ((some (l0.drop ((wrap64 (a1 + 1)) : Int).toNat : List (S37))).bind fun y419 => (if y416.length + y419.length < 5864062014805 then (some (y416 ++ y419)) else (none))) else (none)) else (none))) else (none))) else (none)) else (none)) = some r := by first | (rw [hy409]; with_reducible exact H) | (have H2_ := (Option.bind_some _ _).symm.trans H; rw [hy409]; with_reducible exact H2_) | (have H2_ := (Option.bind_some _ _).symm.trans H; with_reducible exact H2_) | with_reducible exact H | (rw [hy409]; exact H) | exact H
 have Ny409 := Aside0.mk hy409
 clear hy409
 replace H := gd_ H; obtain ⟨c3, H⟩ := H
 have c3b0 := eq_true c3
 have c3b1 : decide (0 ≤ a1) = true := decide_eq_true c3
 clear c3
 replace H := gd_ H; obtain ⟨c4, H⟩ := H
 have c4b0 := eq_true c4
 have c4b1 : decide (a1 ≤ (l0.length : Int)) = true := decide_eq_true c4
 clear c4
 obtain ⟨y412, hy412⟩ : ∃ y_ : List (S37), y_ = (l0.take (a1 : Int).toNat) := ⟨_, rfl⟩
 replace H : (if y409.length + y412.length < 5864062014805 then ((some (y409 ++ y412 : List (S37))).bind fun y416 => (if 0 ≤ (wrap64 (a1 + 1)) then (if (wrap64 (a1 + 1)) ≤ (l0.length : Int) then ((some (l0.drop ((wrap64 (a1 + 1)) : Int).toNat : List (S37))).bind fun y419 => (if y416.length + y419.length < 5864062014805 then (some (y416 ++ y419)) else (none))) else (none)) else (none))) else (none)) = some r := by first | (rw [hy412]; with_reducible exact H) | (have H2_ := (Option.bind_some _ _).symm.trans H; rw [hy412]; with_reducible exact H2_) | (have H2_ := (Option.bind_some _ _).symm.trans H; with_reducible exact H2_) | with_reducible exact H | (rw [hy412]; exact H) | exact H
 have Ny412 := Aside0.mk hy412
 clear hy412
 replace H := gd_ H; obtain ⟨c5, H⟩ := H
 have LMc5 := Aside0.mk c5
 clear c5
 obtain ⟨y416, hy416⟩ : ∃ y_ : List (S37), y_ = (y409 ++ y412) := ⟨_, rfl⟩
 replace H : (if 0 ≤ (wrap64 (a1 + 1)) then (if (wrap64 (a1 + 1)) ≤ (l0.length : Int) then ((some (l0.drop ((wrap64 (a1 + 1)) : Int).toNat : List (S37))).bind fun y419 => (if y416.length + y419.length < 5864062014805 then (some (y416 ++ y419)) else (none))) else (none)) else (none)) = some r := by first | (rw [hy416]; with_reducible exact H) | (have H2_ := (Option.bind_some _ _).symm.trans H; rw [hy416]; with_reducible exact H2_) | (have H2_ := (Option.bind_some _ _).symm.trans H; with_reducible exact H2_) | with_reducible exact H | (rw [hy416]; exact H) | exact H
 have Ny416 := Aside0.mk hy416
 clear hy416
 obtain ⟨ji6, hji6⟩ : ∃ j_ : Int, (wrap64 (a1 + 1)) = j_ := ⟨_, rfl⟩
 replace H : (if 0 ≤ (ji6) then (if (ji6) ≤ (l0.length : Int) then ((some (l0.drop ((ji6) : Int).toNat : List (S37))).bind fun y419 => (if y416.length + y419.length < 5864062014805 then (some (y416 ++ y419)) else (none))) else (none)) else (none)) = some r := by first | (rw [hji6] at H; exact H) | (simp only [hji6] at H ⊢; exact H)
 have hji6w : (IntKind.i64.wrap (a1 + 1)) = ji6 := (i64_w _).trans hji6
 replace H := gd_ H; obtain ⟨c7, H⟩ := H
 have c7b0 := eq_true c7
 have c7b1 : decide (0 ≤ (ji6)) = true := decide_eq_true c7
 clear c7
 replace H := gd_ H; obtain ⟨c8, H⟩ := H
 have c8b0 := eq_true c8
 have c8b1 : decide ((ji6) ≤ (l0.length : Int)) = true := decide_eq_true c8
 clear c8
 obtain ⟨y419, hy419⟩ : ∃ y_ : List (S37), y_ = (l0.drop ((ji6) : Int).toNat) := ⟨_, rfl⟩
 replace H : (if y416.length + y419.length < 5864062014805 then (some (y416 ++ y419)) else (none)) = some r := by first | (rw [hy419]; with_reducible exact H) | (have H2_ := (Option.bind_some _ _).symm.trans H; rw [hy419]; with_reducible exact H2_) | (have H2_ := (Option.bind_some _ _).symm.trans H; with_reducible exact H2_) | with_reducible exact H | (rw [hy419]; exact H) | exact H
 have Ny419 := Aside0.mk hy419
 clear hy419
 replace H := gd_ H; obtain ⟨c9, H⟩ := H
 have LMc9 := Aside0.mk c9
 clear c9
 obtain ⟨y423, hy423⟩ : ∃ y_ : List (S37), y_ = (y416 ++ y419) := ⟨_, rfl⟩
 replace H : (some y423) = some r := by first | (rw [hy423]; with_reducible exact H) | (have H2_ := (Option.bind_some _ _).symm.trans H; rw [hy423]; with_reducible exact H2_) | (have H2_ := (Option.bind_some _ _).symm.trans H; with_reducible exact H2_) | with_reducible exact H | (rw [hy423]; exact H) | exact H
 have Ny423 := Aside0.mk hy423
 clear hy423
 obtain rfl := Option.some.inj H
 go_enter Tryz.func83, Tryz.ntmps83
 try go_wp2
 replace HB := Aside0.mk (below_drew1 HB.out)
 have q11 : (a1 : Int) ≤ ((l0.length : Int) : Int) := of_decide_eq_true zS_
 obtain ⟨i011, hi011, _, hsz11, _⟩ := info_parts info37
 have hroom11 : l0.length ≤ c0 := HC0.out
 have hC11 : Kd.C k37 _ A0 l0.length l0 := HR0.out
 have hcut11 := cut_to (P := Tryz.prog) 26 37 .i64 Tryz.underlying26 hi011 A0 l0.length c0 a1 (of_decide_eq_true zS_) q11 hroom11
 have hr11 := Kd.C_take (m := (a1 : Int).toNat) hC11 (by omega)
 have hy11 : y412.length = (a1 : Int).toNat := (by rw [Ny412.out, List.length_take]; omega)
 rw [← Ny412.out] at hr11
 rw [← hy11] at hcut11
 have HR415 := Aside0.mk hr11
 have HC415 := Aside0.mk (show y412.length ≤ c0 from by omega)
 clear hr11 hC11 hroom11 hi011 hsz11
 have KY11 := Aside0.mk hy11
 clear hy11
 replace q11 := eq_true q11
 have q12 : ((ji6) : Int) ≤ ((l0.length : Int) : Int) := of_decide_eq_true zS_
 obtain ⟨i012, hi012, _, hsz12, _⟩ := info_parts info37
 have hroom12 : l0.length ≤ c0 := HC0.out
 have hC12 : Kd.C k37 _ A0 l0.length l0 := HR0.out
 have q012 : (0 : Int) ≤ ((ji6) : Int) := of_decide_eq_true zS_
 have hcut12 := cut_from (P := Tryz.prog) 26 37 .i64 Tryz.underlying26 hi012 3 hsz12 A0 l0.length c0 (ji6) q012 q12
 have hr12 := Kd.C_drop (m := ((ji6) : Int).toNat) (c := c0) hC12 (by omega) hroom12
 obtain ⟨A12, hA12⟩ : ∃ A1, A1 = (if c0 = ((ji6) : Int).toNat then A0 else (A0 : Option Addr).map (·.add (((ji6) : Int).toNat * 3))) := ⟨_, rfl⟩
 obtain ⟨c12, hc12⟩ : ∃ c1, c1 = c0 - ((ji6) : Int).toNat := ⟨_, rfl⟩
 have hy12 : y419.length = l0.length - ((ji6) : Int).toNat := (by rw [Ny419.out, List.length_drop] <;> omega)
 rw [show (l0).drop ((ji6) : Int).toNat = y419 from Ny419.out.symm] at hr12
 replace hr12 : Kd.C k37 _ A12 y419.length y419 := (by rw [hA12]; exact hr12)
 rw [← hy12, ← hA12, ← hc12] at hcut12
 have HR422 := Aside0.mk hr12
 have HC422 := Aside0.mk (show y419.length ≤ c12 from by rw [hy12, hc12]; exact Nat.sub_le_sub_right hroom12 _)
 clear hr12 hC12 hroom12 hi012 hsz12 hc12
 have KY12 := Aside0.mk hy12
 have KA12 := Aside0.mk hA12
 clear hy12 hA12
 replace q12 := eq_true q12
 refine start_ (n := 11) (S := fun w' => True) (ds := []) #[false, false, false, false, false, false, false, false, false, false, false] (by kernel_rfl) rfl rfl trivial (fun hHeld => ?_); refine with_tabW spec_pzWithout.tab1 spec_pzWithout.bits1 (fun HT_ HW_ => ?_)
 generalize w.drew = w10 at HB HR415 HR422 hHeld ⊢
 refine pq_ 1 6 ?_
 refine pq_ 2 7 ?_
 refine pq_ 3 8 ?_
 refine pq_ 5 10 ?_
 refine pq_ 6 11 ?_
 refine pq_ 7 12 ?_
 refine pq_ 8 13 ?_
 refine one_ (i := 0) (N := some 5) #[true, true, true, true, false, true, true, true, true, false, false] rfl rfl (one_of HT_.out (by kernel_rfl)) (by decide) (fun K hK => ?_)
 refine Kd.R_lit_step k37 _ 37 ?hg (N := 5) ?hd (xs := ([] : List (S37))) (inner := []) (ok := fun _ => True) (okp := fun _ => True) ?hr ?hp (fun _ hk => hk) trivial (Below.refl _ _) (Nat.le_refl _) (by simp) ?_; (case hd => rfl); (case hg => rfl); (case hr => exact zc15_11_); (case hp => exact (Reps.none _ _))
 intro v410 w13 ho14 hb hg_ hnew_
 clear hg_ hnew_
 (first | rw [← Ny409.out] at ho14 | (simp only [Int.reduceToNat] at ho14; rw [← Ny409.out] at ho14))
 have HO411 := Aside0.mk (Kd.R_lower ho14 (below_size zB_))
 replace HB := Aside0.mk (below_step zB_ hb)
 clear hb ho14
 refine hK.out _ _ trivial (fun hHeld => ?_)
 clear hK K
 refine norm_ (a' := ?_) ?_ ?_
 rotate_left
 · show Act.put _ (some 5) _ = _
   simp only [Act.put, List.setIfInBounds_toArray, List.set_cons_zero, List.set_cons_succ, i64_w, i32_w]
   rfl
 refine one_ (i := 4) (N := some 9) #[true, true, true, true, true, true, true, true, true, false, false] rfl rfl (one_of HT_.out (by kernel_rfl)) (by decide) (fun K hK => ?_)
 refine Kd.R_append_rows_step k37 (w0 := w) w.heap.size (by rfl) (.tmp 5) (.tmp 8) 26 37 (.agg #[(.int .i64 0), (.int .i64 0), (.int .i64 0)]) 24 rfl Tryz.underlying26 info37 rfl (by decide) (by omega) v410 y409 y412 _ _ _ (fun _ => True) (fun _ => False) rfl rfl ?aO ?aR (fun _ _ h => h) (fun _ h => h.elim) ?aF ?aB ?aS ?aL ?_
 (case aR => repeat (first | exact (Kd.C_below HR415.out HB.out) | (with_reducible refine Kd.C_alloc ?_ _) | (with_reducible refine Kd.C_drewN ?_ _) | (with_reducible refine Kd.C_drew ?_)))
 (case aB => exact zB_)
 (case aF => exact (fun _ _ => trivial))
 (case aO => exact (rr_ HO411.out))
 (case aS => exact (below_size zB_))
 (case aL => have := LMc5.out; omega)
 intro v417 w15 ho hb hg hat
 rw [← Ny416.out] at ho
 replace HB := Aside0.mk (hb)
 have HO418 := Aside0.mk (ho)
 clear HO411
 clear ho hb hg hat
 refine hK.out _ _ trivial (fun hHeld => ?_)
 clear hK K
 refine norm_ (a' := ?_) ?_ ?_
 rotate_left
 · show Act.put _ (some 9) _ = _
   simp only [Act.put, List.setIfInBounds_toArray, List.set_cons_zero, List.set_cons_succ, i64_w, i32_w]
   rfl
 refine one_ (i := 9) (N := some 14) #[true, true, true, true, true, true, true, true, true, true, false] rfl rfl (one_of HT_.out (by kernel_rfl)) (by decide) (fun K hK => ?_)
 refine Kd.R_append_rows_step k37 (w0 := w) w.heap.size (by rfl) (.tmp 9) (.tmp 13) 26 37 (.agg #[(.int .i64 0), (.int .i64 0), (.int .i64 0)]) 24 rfl Tryz.underlying26 info37 rfl (by decide) (by omega) v417 y416 y419 _ _ _ (fun _ => True) (fun _ => False) rfl rfl ?aO ?aR (fun _ _ h => h) (fun _ h => h.elim) ?aF ?aB ?aS ?aL ?_
 (case aR => repeat (first | exact (Kd.C_below HR422.out HB.out) | (with_reducible refine Kd.C_alloc ?_ _) | (with_reducible refine Kd.C_drewN ?_ _) | (with_reducible refine Kd.C_drew ?_)))
 (case aB => exact zB_)
 (case aF => exact (fun _ _ => trivial))
 (case aO => exact (rr_ HO418.out))
 (case aS => exact (below_size zB_))
 (case aL => have := LMc9.out; omega)
 intro v424 w16 ho hb hg hat
 rw [← Ny423.out] at ho
 replace HB := Aside0.mk (hb)
 have HO425 := Aside0.mk (ho)
 clear HO418
 clear ho hb hg hat
 refine hK.out _ _ trivial (fun hHeld => ?_)
 clear hK K
 refine norm_ (a' := ?_) ?_ ?_
 rotate_left
 · show Act.put _ (some 14) _ = _
   simp only [Act.put, List.setIfInBounds_toArray, List.set_cons_zero, List.set_cons_succ, i64_w, i32_w]
   rfl
 refine pq_ 10 4 ?_
 refine done_ (done_of HT_.out (by kernel_rfl)) ?_
 try go_wp2
 go_ret
 exact ⟨_, by first | rfl | (simp [errW_none, errW_some] <;> rfl) | (simp only [← hji6]; first | rfl | (simp [errW_none, errW_some] <;> rfl)) | (simp [*, errW_none, errW_some] <;> rfl), by exact rr_ HO425.out, zB_⟩

/-! ### spec_HarderPuzzle: function 17 -/
mutual
def spec_HarderPuzzle.j0 : Nat → Bool → List (S37) → Option ((List (S37)) × Bool)
 | 0, _, _ => none
 | k + 1, x15, x427000 => if x15 = true then (some (([] : List (S37)), false)) else ((some (([] : List (S37)) : List (S37))).bind fun y430 => (if y430.length + x427000.length < 5864062014805 then (spec_HarderPuzzle.l0 k (y430 ++ x427000) 0) else (none)))
def spec_HarderPuzzle.l0 : Nat → List (S37) → Int → Option ((List (S37)) × Bool)
 | 0, _, _ => none
 | k + 1, x4, x5 => if x5 < (x4.length : Int) then ((spec_pzWithout.f x4 x5).bind fun t436 => ((spec_pzSolved.f k t436).bind fun t439 => (if t439 = true then (spec_HarderPuzzle.l0 k t436 x5) else (spec_HarderPuzzle.l0 k x4 (wrap64 (x5 + 1)))))) else (some (x4, true))
end
def spec_HarderPuzzle.f (k : Nat) (l0_0 : List (S37)) : Option ((List (S37)) × Bool) := (spec_pzGood.f k l0_0).bind fun t428 => (if t428 = true then ((spec_pzSolved.f k l0_0).bind fun t429 => (spec_HarderPuzzle.j0 k (!t429) l0_0)) else (spec_HarderPuzzle.j0 k true l0_0))
theorem spec_HarderPuzzle.mono_l : ∀ k, (∀ y0 y1, LeO (spec_HarderPuzzle.j0 k y0 y1) (spec_HarderPuzzle.j0 (k + 1) y0 y1)) ∧ (∀ y0 y1, LeO (spec_HarderPuzzle.l0 k y0 y1) (spec_HarderPuzzle.l0 (k + 1) y0 y1))
 | 0 => ⟨fun _ _ r h => by simp [spec_HarderPuzzle.j0] at h, fun _ _ r h => by simp [spec_HarderPuzzle.l0] at h⟩
 | k + 1 => by
  obtain ⟨ih0, ih1⟩ := spec_HarderPuzzle.mono_l k
  refine ⟨?_, ?_⟩
  · intro y0 y1
    unfold spec_HarderPuzzle.j0
    repeat' first
    | (with_reducible exact ih0 _ _)
    | (with_reducible exact ih1 _ _)
    | (with_reducible exact spec_pzGood.mono _ _)
    | (with_reducible exact spec_pzSolved.mono _ _)
    | (with_reducible exact LeO.refl _)
    | (with_reducible exact LeO.none _)
    | (with_reducible refine LeO.ite ?_ ?_)
    | (with_reducible refine LeO.bind ?_ (fun _ => ?_))
    | exact LeO.none _
    | refine LeO.ite ?_ ?_
    | refine LeO.bind ?_ (fun _ => ?_)
  intro y0 y1
  unfold spec_HarderPuzzle.l0
  repeat' first
  | (with_reducible exact ih0 _ _)
  | (with_reducible exact ih1 _ _)
  | (with_reducible exact spec_pzGood.mono _ _)
  | (with_reducible exact spec_pzSolved.mono _ _)
  | (with_reducible exact LeO.refl _)
  | (with_reducible exact LeO.none _)
  | (with_reducible refine LeO.ite ?_ ?_)
  | (with_reducible refine LeO.bind ?_ (fun _ => ?_))
  | exact LeO.none _
  | refine LeO.ite ?_ ?_
  | refine LeO.bind ?_ (fun _ => ?_)
theorem spec_HarderPuzzle.mono : ∀ a0 k, LeO (spec_HarderPuzzle.f k a0) (spec_HarderPuzzle.f (k + 1) a0) := by
 intro a0 k
 obtain ⟨ih0, ih1⟩ := spec_HarderPuzzle.mono_l k
 unfold spec_HarderPuzzle.f
 repeat' first
  | (with_reducible exact ih0 _ _)
  | (with_reducible exact ih1 _ _)
  | (with_reducible exact spec_pzGood.mono _ _)
  | (with_reducible exact spec_pzSolved.mono _ _)
  | (with_reducible exact LeO.refl _)
  | (with_reducible exact LeO.none _)
  | (with_reducible refine LeO.ite ?_ ?_)
  | (with_reducible refine LeO.bind ?_ (fun _ => ?_))
  | exact LeO.none _
  | refine LeO.ite ?_ ?_
  | refine LeO.bind ?_ (fun _ => ?_)
set_option maxHeartbeats 8000000 in
set_option maxRecDepth 100000 in
theorem spec_HarderPuzzle.calls (k : Nat) (A0_0 : Option Addr) (c0_0 : Nat) (l0_0 : List (S37)) (r1 : List (S37)) (r2 : Bool) (w : World) (hr0_0 : Kd.C k37 w A0_0 l0_0.length l0_0) (hc0_0 : l0_0.length ≤ c0_0) (h : spec_HarderPuzzle.f k l0_0 = some (r1, r2)) :
 Calls Tryz.prog 17 #[.agg #[.slice A0_0 l0_0.length c0_0]] w fun e w' => ∃ v0_ : Value, e = .returned (.tuple #[.agg #[v0_], .bool r2]) ∧ Kd.R k37 37 w' w.heap.size (fun _ => True) v0_ r1 ∧ Below w.heap.size w w' := by
 have hu28 := Tryz.underlying28
 have HR0_0 := Aside0.mk hr0_0
 have HC0_0 := Aside0.mk hc0_0
 clear hr0_0 hc0_0
 have HB := Aside0.mk (Below.refl w.heap.size w)
 unfold spec_HarderPuzzle.f at h
 have H := h
 clear h
 have HC2 := Aside0.mk H
 clear H
 go_enter Tryz.func17, Tryz.ntmps17
 go_upto_region 1 with (first | (refine bx_ 1 #[.slice A0_0 l0_0.length c0_0] 28 ?_; intro gb426 hg w3 hbox hb; have BK426 := Aside0.mk (hbox); have GW426 : Aside0 (w.heap.size ≤ gb426) := bs_ hg zB_; have GE426 := GW426; replace HB := Aside0.mk (below_step zB_ hb); clear hb hbox hg) | (refine bx_ 2 #[.slice none 0 0] 28 ?_; intro gb427 hg w4 hbox hb; have BK427 := Aside0.mk (hbox); have GW427 : Aside0 (w.heap.size ≤ gb427) := bs_ hg z14_10_; have GE427 := GW427; replace HB := Aside0.mk (below_step z14_10_ hb); have NB426_427 := nl_ BK426 z14_4_ hg; have NB427_426 := ns_ NB426_427; replace BK426 := bb_ BK426 z14_4_ hb; clear hb hbox hg))
 (try simp only [Act.put, List.setIfInBounds_toArray, List.set_cons_zero, List.set_cons_succ])
 go_cut [15] (fun v15 wc => ∃ (kq : Nat) (x15_1 : Bool), v15 = .bool x15_1 ∧ Aside0 (spec_HarderPuzzle.j0 kq x15_1 l0_0 = some (r1, r2)) ∧ Aside0 (kq ≤ k) ∧ Aside0 (wc.heap[gb426]? = some (.cells #[(.slice A0_0 l0_0.length c0_0)] 28 (0, 0))) ∧ Aside0 (wc.heap[gb427]? = some (.cells #[(.slice none 0 0)] 28 (0, 0))) ∧ Aside0 (Below w.heap.size w wc))
 case first =>
  have H := HC2.out
  clear HC2
  replace H := bd_ H; obtain ⟨t428, A5, H⟩ := H
  by_cases c6 : t428 = true
  · subst c6
    rw [if_pos rfl] at H
    replace H := bd_ H; obtain ⟨t429, A7, H⟩ := H
    have H' := Aside0.mk H
    clear H
    have hnb8 := NB426_427.out
    have hnc8 := NB427_426.out
    have hcz9_0 : w4.cell? ⟨gb426, 0, none⟩ = some (.slice A0_0 l0_0.length c0_0) := (blk_cell BK426.out 0).trans rfl
    have hfz9_0 := blk_frozen BK426.out 0
    go_wp2_with (first | ((with_reducible refine gc_ 81 rfl ?_); refine gL_ 8 Tryz.func81 #[.agg #[.slice A0_0 l0_0.length c0_0]] ?_; (with_reducible refine (spec_pzGood.calls k _ _ l0_0 true _ ?side1 ?side2 A5.out).mono ?_); (case side1 => exact zc15_5_); (case side2 => exact HC0_0.out); rintro e w10 ⟨rfl, hb⟩; refine ⟨_, rfl, ?_⟩; replace BK426 := bb_ BK426 z14_4_ hb; replace BK427 := bb_ BK427 z14_6_ hb; replace HB := Aside0.mk (below_step z14_1_ hb); have hcz11_0 : w10.cell? ⟨gb426, 0, none⟩ = some (.slice A0_0 l0_0.length c0_0) := (blk_cell BK426.out 0).trans rfl; have hfz11_0 := blk_frozen BK426.out 0) | (go_at_call 82; (with_reducible refine (spec_pzSolved.calls k _ _ l0_0 t429 _ ?side1 ?side2 A7.out).mono ?_); (case side1 => exact zc15_5_); (case side2 => exact HC0_0.out); rintro e w12 ⟨rfl, hb⟩; replace BK426 := bb_ BK426 z14_4_ hb; replace BK427 := bb_ BK427 z14_6_ hb; replace HB := Aside0.mk (below_step z14_1_ hb)))
    go_meet
    case rel => exact ⟨_, (!t429), zV_, H', ⟨by first | omega | exact Nat.le_refl _⟩, ⟨b_ BK426.out⟩, ⟨b_ BK427.out⟩, ⟨by repeat (first | (with_reducible first | exact HB.out | apply below_alloc | apply pw_below_drewN | apply below_drew1 | refine below_set ?_ GE426.out | refine below_set ?_ GE427.out) | exact HB.out)⟩⟩
  replace H := bf_ c6 H; obtain ⟨rfl, H⟩ := H
  have H' := Aside0.mk H
  clear H
  have hnb13 := NB426_427.out
  have hnc13 := NB427_426.out
  have hcz14_0 : w4.cell? ⟨gb426, 0, none⟩ = some (.slice A0_0 l0_0.length c0_0) := (blk_cell BK426.out 0).trans rfl
  have hfz14_0 := blk_frozen BK426.out 0
  go_wp2_with (first | ((with_reducible refine gc_ 81 rfl ?_); refine gL_ 8 Tryz.func81 #[.agg #[.slice A0_0 l0_0.length c0_0]] ?_; (with_reducible refine (spec_pzGood.calls k _ _ l0_0 false _ ?side1 ?side2 A5.out).mono ?_); (case side1 => exact zc15_5_); (case side2 => exact HC0_0.out); rintro e w15 ⟨rfl, hb⟩; refine ⟨_, rfl, ?_⟩; replace BK426 := bb_ BK426 z14_4_ hb; replace BK427 := bb_ BK427 z14_6_ hb; replace HB := Aside0.mk (below_step z14_1_ hb)))
  go_meet
  case rel => exact ⟨_, (true), zV_, H', ⟨by first | omega | exact Nat.le_refl _⟩, ⟨b_ BK426.out⟩, ⟨b_ BK427.out⟩, ⟨by repeat (first | (with_reducible first | exact HB.out | apply below_alloc | apply pw_below_drewN | apply below_drew1 | refine below_set ?_ GE426.out | refine below_set ?_ GE427.out) | exact HB.out)⟩⟩
 case rest =>
  clear HC2
  obtain ⟨kq, x15_1, rfl, HA, HJ1, BK426, BK427, HB⟩ := hcut
  cases kq with
  | zero => exact absurd HA.out (by simp [spec_HarderPuzzle.j0])
  | succ kj1 =>
   have H := HA.out
   clear HA
   simp only [spec_HarderPuzzle.j0] at H
   by_cases c16 : x15_1 = true
   · subst c16
     rw [if_pos rfl] at H
     simp only [Option.some.injEq, Prod.mk.injEq] at H
     obtain ⟨rfl, rfl⟩ := H
     have hnb17 := NB427_426.out
     have hnc17 := NB426_427.out
     have hcz18_0 : wc.cell? ⟨gb427, 0, none⟩ = some (.slice none 0 0) := (blk_cell BK427.out 0).trans rfl
     have hfz18_0 := blk_frozen BK427.out 0
     go_wp2
     refine bodyPost_ret (results_ct rfl _ _ gb427 28 #[.slice none 0 0] (0, 0) _ rfl z14_9_ Tryz.underlying28 rfl (by kernel_rfl)) rfl ?_
     exact ⟨_, by first | rfl | (simp [errW_none, errW_some] <;> rfl) | (simp [*, errW_none, errW_some] <;> rfl), by first | exact Kd.R_nil _ _ _ _ _ | exact Kd.N_nil _ _ _ _ _ | exact Kd.V_nil _ _ _ _ _ | exact Kd.Q_nil _ _ _ _ _ | exact Kd.S_nil _ _ _ _ _, by repeat (first | (with_reducible first | exact HB.out | apply below_alloc | apply pw_below_drewN | apply below_drew1 | refine below_set ?_ GE426.out | refine below_set ?_ GE427.out) | exact HB.out)⟩
   replace H := bf_ c16 H; obtain ⟨rfl, H⟩ := H
   obtain ⟨y430, hy430⟩ : ∃ y_ : List (S37), y_ = (([] : List (S37))) := ⟨_, rfl⟩
   replace H : (if y430.length + l0_0.length < 5864062014805 then (spec_HarderPuzzle.l0 kj1 (y430 ++ l0_0) 0) else (none)) = some (r1, r2) := by first | (rw [hy430]; with_reducible exact H) | (have H2_ := (Option.bind_some _ _).symm.trans H; rw [hy430]; with_reducible exact H2_) | (have H2_ := (Option.bind_some _ _).symm.trans H; with_reducible exact H2_) | with_reducible exact H | (rw [hy430]; exact H) | exact H
   have Ny430 := Aside0.mk hy430
   clear hy430
   replace H := gd_ H; obtain ⟨c19, H⟩ := H
   have LMc19 := Aside0.mk c19
   clear c19
   obtain ⟨y433, hy433⟩ : ∃ y_ : List (S37), y_ = (y430 ++ l0_0) := ⟨_, rfl⟩
   replace H : (spec_HarderPuzzle.l0 kj1 y433 0) = some (r1, r2) := by first | (rw [hy433]; with_reducible exact H) | (have H2_ := (Option.bind_some _ _).symm.trans H; rw [hy433]; with_reducible exact H2_) | (have H2_ := (Option.bind_some _ _).symm.trans H; with_reducible exact H2_) | with_reducible exact H | (rw [hy433]; exact H) | exact H
   have Ny433 := Aside0.mk hy433
   clear hy433
   have H' := Aside0.mk H
   clear H
   go_wp2_with (first | ((with_reducible refine gate_dst (N := 17) rfl ?_); refine Kd.R_lit k37 _ 37 ?hg (N := 17) ?hd (xs := ([] : List (S37))) (inner := []) (ok := fun _ => True) (okp := fun _ => True) ?hr ?hp (fun _ hk => hk) trivial (Below.refl _ _) (Nat.le_refl _) (by simp) ?_; (case hd => rfl); (case hg => rfl); (case hr => exact zc15_11_); (case hp => exact (Reps.none _ _)); intro v431 w20 ho21 hb hg_ hnew_; clear hg_ hnew_; (first | rw [← Ny430.out] at ho21 | (simp only [Int.reduceToNat] at ho21; rw [← Ny430.out] at ho21)); have HO432 := Aside0.mk (Kd.R_lower ho21 (below_size z14_1_)); replace BK426 := bb_ BK426 z14_4_ hb; replace BK427 := bb_ BK427 z14_6_ hb; replace HB := Aside0.mk (below_step z14_1_ hb); clear hb ho21; have hnb22 := NB426_427.out; have hnc22 := NB427_426.out; have hcz23_0 : w20.cell? ⟨gb426, 0, none⟩ = some (.slice A0_0 l0_0.length c0_0) := (blk_cell BK426.out 0).trans rfl; have hfz23_0 := blk_frozen BK426.out 0) | ((with_reducible refine gate_builtin (b := .append) (xs := #[.tmp 17, .tmp 19]) rfl ?_); at_builtin; refine Kd.R_append_rows k37 (w0 := w) w.heap.size rfl (.tmp 17) (.tmp 19) 26 37 (.agg #[(.int .i64 0), (.int .i64 0), (.int .i64 0)]) 24 rfl Tryz.underlying26 info37 rfl (by decide) (by omega) v431 y430 l0_0 _ _ _ (fun _ => True) (fun _ => False) rfl rfl ?aO ?aR (fun _ _ h => h) (fun _ h => h.elim) ?aF ?aB ?aS ?aL ?_; (case aR => exact zc15_5_); (case aB => exact z14_1_); (case aF => exact (fun _ _ => trivial)); (case aO => exact (rr_ HO432.out)); (case aS => exact (below_size z14_1_)); (case aL => have := LMc19.out; omega); intro v434 w24 ho hb hg hat; rw [← Ny433.out] at ho; replace BK426 := Aside0.mk (blk_grown (g := gb426) (o := .cells #[.slice A0_0 l0_0.length c0_0] 28 (0, 0)) z14_4_ hg (Kd.R_ne HO432.out BK426.out (by decide))); replace BK427 := Aside0.mk (blk_grown (g := gb427) (o := .cells #[.slice none 0 0] 28 (0, 0)) z14_6_ hg (Kd.R_ne HO432.out BK427.out (by decide))); replace HB := Aside0.mk (hb); have HO435 := Aside0.mk (ho); clear HO432; clear ho hb hg hat))
   go_loopg [4, 5] kj1 (fun kq v4 v5 w' => ∃ (x4_2 : List (S37)) (x5_2 : Int), v5 = .int .i64 x5_2 ∧ Aside0 (spec_HarderPuzzle.l0 kq x4_2 x5_2 = some (r1, r2)) ∧ Aside0 (kq ≤ kj1) ∧ Aside0 (Kd.R k37 37 w' w.heap.size (fun _ => True) v4 x4_2) ∧ Aside0 (w'.heap[gb426]? = some (.cells #[(.slice A0_0 l0_0.length c0_0)] 28 (0, 0))) ∧ Aside0 (w'.heap[gb427]? = some (.cells #[(.slice none 0 0)] 28 (0, 0))) ∧ Aside0 (Below w.heap.size w w'))
   case atStart => exact ⟨(y433), (0), zV_, H', ⟨Nat.le_refl _⟩, ⟨rr_ HO435.out⟩, ⟨b_ BK426.out⟩, ⟨b_ BK427.out⟩, ⟨by repeat (first | (with_reducible first | exact HB.out | apply below_alloc | apply pw_below_drewN | apply below_drew1 | refine below_set ?_ GE426.out | refine below_set ?_ GE427.out) | exact HB.out)⟩⟩
   case round =>
    clear H'
    obtain ⟨x4_2, x5_2, rfl, HA, HK2, HO_4, BK426, BK427, HB⟩ := hrel
    cases gk with
    | zero => exact absurd HA.out (by simp [spec_HarderPuzzle.l0])
    | succ k2 =>
     have H := HA.out
     clear HA
     simp only [spec_HarderPuzzle.l0] at H
     by_cases c25 : x5_2 < (x4_2.length : Int)
     · rw [if_pos c25] at H
       have c25b0 := decide_eq_true c25
       clear c25
       replace H := bd_ H; obtain ⟨t436, A26, H⟩ := H
       replace H := bd_ H; obtain ⟨t439, A27, H⟩ := H
       by_cases c28 : t439 = true
       · subst c28
         rw [if_pos rfl] at H
         have H' := Aside0.mk H
         clear H
         obtain ⟨Ao29, co29, eo29⟩ := Kd.R_slice HO_4.out
         subst eo29
         go_wp2_with (first | ((with_reducible refine gc_ 83 rfl ?_); refine gL_ 27 Tryz.func83 #[.slice Ao29 x4_2.length co29, .int .i64 x5_2] ?_; (with_reducible refine (spec_pzWithout.calls _ _ x4_2 x5_2 t436 _ ?side1 ?side2 A26.out).mono ?_); (case side1 => exact zc15_10_); (case side2 => exact (Kd.R_reads' HO_4.out).2.1); rintro e w30 ⟨v437, rfl, ho0, hb⟩; refine ⟨_, rfl, ?_⟩; have HO438 := Aside0.mk (Kd.R_lower (Kd.R_new' ho0 (Kd.R_lt z14_5_)) (below_size z14_1_)); replace HO_4 := Aside0.mk (Kd.R_elder' z14_5_ (Kd.R_base ho0) hb); replace BK426 := bb_ BK426 z14_4_ hb; replace BK427 := bb_ BK427 z14_6_ hb; replace HB := Aside0.mk (below_step z14_1_ hb); obtain ⟨Ao31, co31, eo31⟩ := Kd.R_slice HO438.out; subst eo31) | ((with_reducible refine gc_ 82 rfl ?_); refine gL_ 29 Tryz.func82 #[.slice Ao31 t436.length co31] ?_; (with_reducible refine (spec_pzSolved.calls k2 _ _ t436 true _ ?side1 ?side2 A27.out).mono ?_); (case side1 => exact zc15_7_); (case side2 => exact (Kd.R_reads' HO438.out).2.1); rintro e w32 ⟨rfl, hb⟩; refine ⟨_, rfl, ?_⟩; replace HO_4 := Aside0.mk (Kd.R_below z14_5_ hb); replace HO438 := Aside0.mk (Kd.R_below zq15_1_ hb); replace BK426 := bb_ BK426 z14_4_ hb; replace BK427 := bb_ BK427 z14_6_ hb; replace HB := Aside0.mk (below_step z14_1_ hb)))
         go_roundg k2
         case measure => have := HJ1.out; have := HK2.out; omega
         case rel => exact ⟨(t436), (x5_2), zV_, H', ⟨by have := HJ1.out; have := HK2.out; omega⟩, ⟨by refine rr_ ?_; exact Kd.R_mono HO438.out (fun _ hk => trivial)⟩, ⟨b_ BK426.out⟩, ⟨b_ BK427.out⟩, ⟨by repeat (first | (with_reducible first | exact HB.out | apply below_alloc | apply pw_below_drewN | apply below_drew1 | refine below_set ?_ GE426.out | refine below_set ?_ GE427.out) | exact HB.out)⟩⟩
       replace H := bf_ c28 H; obtain ⟨rfl, H⟩ := H
       have H' := Aside0.mk H
       clear H
       obtain ⟨Ao33, co33, eo33⟩ := Kd.R_slice HO_4.out
       subst eo33
       go_wp2_with (first | ((with_reducible refine gc_ 83 rfl ?_); refine gL_ 27 Tryz.func83 #[.slice Ao33 x4_2.length co33, .int .i64 x5_2] ?_; (with_reducible refine (spec_pzWithout.calls _ _ x4_2 x5_2 t436 _ ?side1 ?side2 A26.out).mono ?_); (case side1 => exact zc15_10_); (case side2 => exact (Kd.R_reads' HO_4.out).2.1); rintro e w34 ⟨v437, rfl, ho0, hb⟩; refine ⟨_, rfl, ?_⟩; have HO438 := Aside0.mk (Kd.R_lower (Kd.R_new' ho0 (Kd.R_lt z14_5_)) (below_size z14_1_)); replace HO_4 := Aside0.mk (Kd.R_elder' z14_5_ (Kd.R_base ho0) hb); replace BK426 := bb_ BK426 z14_4_ hb; replace BK427 := bb_ BK427 z14_6_ hb; replace HB := Aside0.mk (below_step z14_1_ hb); obtain ⟨Ao35, co35, eo35⟩ := Kd.R_slice HO438.out; subst eo35) | ((with_reducible refine gc_ 82 rfl ?_); refine gL_ 29 Tryz.func82 #[.slice Ao35 t436.length co35] ?_; (with_reducible refine (spec_pzSolved.calls k2 _ _ t436 false _ ?side1 ?side2 A27.out).mono ?_); (case side1 => exact zc15_7_); (case side2 => exact (Kd.R_reads' HO438.out).2.1); rintro e w36 ⟨rfl, hb⟩; refine ⟨_, rfl, ?_⟩; replace HO_4 := Aside0.mk (Kd.R_below z14_5_ hb); replace HO438 := Aside0.mk (Kd.R_below zq15_1_ hb); replace BK426 := bb_ BK426 z14_4_ hb; replace BK427 := bb_ BK427 z14_6_ hb; replace HB := Aside0.mk (below_step z14_1_ hb)))
       go_roundg k2
       case measure => have := HJ1.out; have := HK2.out; omega
       case rel => exact ⟨(x4_2), (wrap64 (x5_2 + 1)), zV_, H', ⟨by have := HJ1.out; have := HK2.out; omega⟩, ⟨by refine rr_ ?_; exact Kd.R_mono HO_4.out (fun _ hk => trivial)⟩, ⟨b_ BK426.out⟩, ⟨b_ BK427.out⟩, ⟨by repeat (first | (with_reducible first | exact HB.out | apply below_alloc | apply pw_below_drewN | apply below_drew1 | refine below_set ?_ GE426.out | refine below_set ?_ GE427.out) | exact HB.out)⟩⟩
     rw [if_neg c25] at H
     have c25b0 := decide_eq_false c25
     clear c25
     simp only [Option.some.injEq, Prod.mk.injEq] at H
     obtain ⟨rfl, rfl⟩ := H
     obtain ⟨Ao37, co37, eo37⟩ := Kd.R_slice HO_4.out
     subst eo37
     have hnb38 := NB427_426.out
     have hnc38 := NB426_427.out
     have hcz39_0 : wr.cell? ⟨gb427, 0, none⟩ = some (.slice none 0 0) := (blk_cell BK427.out 0).trans rfl
     have hfz39_0 := blk_frozen BK427.out 0
     go_wp2
     refine bodyPost_ret (results_ct rfl _ _ gb427 28 #[.slice Ao37 x4_2.length co37] (0, 0) _ rfl z14_9_ Tryz.underlying28 rfl (by kernel_rfl)) rfl ?_
     exact ⟨_, by first | rfl | (simp [errW_none, errW_some] <;> rfl) | (simp [*, errW_none, errW_some] <;> rfl), by refine rr_ ?_; exact Kd.R_mono (Kd.R_far (p := ⟨gb427, 0, none⟩) (Kd.R_types HO_4.out BK427.out (by decide)) (fun _ hk => hk.2) (.slice Ao37 x4_2.length co37)) (fun _ hk => trivial), by repeat (first | (with_reducible first | exact HB.out | apply below_alloc | apply pw_below_drewN | apply below_drew1 | refine below_set ?_ GE426.out | refine below_set ?_ GE427.out) | exact HB.out)⟩

/-! ### impl_NeedlessClues: function 20 -/
def impl_NeedlessClues.l0 : Nat → List Int → Int → Int → Int → List (S37) → Option (List Int × Bool)
 | 0, _, _, _, _, _ => none
 | k + 1, x4, x5, x17, x18, x441000 => if x18 < x17 then ((impl_dropped.f x441000 x18).bind fun t448 => ((impl_solutions.f k t448).bind fun t451 => (if (t451.length : Int) = x5 then (if x4.length < 17592186044416 then (impl_NeedlessClues.l0 k (x4 ++ [x18]) x5 x17 (wrap64 (x18 + 1)) x441000) else (none)) else (impl_NeedlessClues.l0 k x4 x5 x17 (wrap64 (x18 + 1)) x441000)))) else (some (x4, true))
def impl_NeedlessClues.f (k : Nat) (l0_0 : List (S37)) : Option (List Int × Bool) := (impl_IsPuzzle.f k l0_0).bind fun t441 => (if t441 = true then ((impl_solutions.f k l0_0).bind fun t445 => (impl_NeedlessClues.l0 k (([] : List Int)) (t445.length : Int) (l0_0.length : Int) 0 l0_0)) else (some (([] : List Int), false)))
theorem impl_NeedlessClues.mono_l : ∀ k, (∀ y0 y1 y2 y3 y4, LeO (impl_NeedlessClues.l0 k y0 y1 y2 y3 y4) (impl_NeedlessClues.l0 (k + 1) y0 y1 y2 y3 y4))
 | 0 => fun _ _ _ _ _ r h => by simp [impl_NeedlessClues.l0] at h
 | k + 1 => by
  have ih0 := impl_NeedlessClues.mono_l k
  intro y0 y1 y2 y3 y4
  unfold impl_NeedlessClues.l0
  repeat' first
  | (with_reducible exact ih0 _ _ _ _ _)
  | (with_reducible exact impl_IsPuzzle.mono _ _)
  | (with_reducible exact impl_solutions.mono _ _)
  | (with_reducible exact LeO.refl _)
  | (with_reducible exact LeO.none _)
  | (with_reducible refine LeO.ite ?_ ?_)
  | (with_reducible refine LeO.bind ?_ (fun _ => ?_))
  | exact LeO.none _
  | refine LeO.ite ?_ ?_
  | refine LeO.bind ?_ (fun _ => ?_)
theorem impl_NeedlessClues.mono : ∀ a0 k, LeO (impl_NeedlessClues.f k a0) (impl_NeedlessClues.f (k + 1) a0) := by
 intro a0 k
 have ih0 := impl_NeedlessClues.mono_l k
 unfold impl_NeedlessClues.f
 repeat' first
  | (with_reducible exact ih0 _ _ _ _ _)
  | (with_reducible exact impl_IsPuzzle.mono _ _)
  | (with_reducible exact impl_solutions.mono _ _)
  | (with_reducible exact LeO.refl _)
  | (with_reducible exact LeO.none _)
  | (with_reducible refine LeO.ite ?_ ?_)
  | (with_reducible refine LeO.bind ?_ (fun _ => ?_))
  | exact LeO.none _
  | refine LeO.ite ?_ ?_
  | refine LeO.bind ?_ (fun _ => ?_)
set_option maxHeartbeats 8000000 in
set_option maxRecDepth 100000 in
theorem impl_NeedlessClues.calls (k : Nat) (A0_0 : Option Addr) (c0_0 : Nat) (l0_0 : List (S37)) (r1 : List Int) (r2 : Bool) (w : World) (hr0_0 : Kd.C k37 w A0_0 l0_0.length l0_0) (hc0_0 : l0_0.length ≤ c0_0) (h : impl_NeedlessClues.f k l0_0 = some (r1, r2)) :
 Calls Tryz.prog 20 #[.agg #[.slice A0_0 l0_0.length c0_0]] w fun e w' => ∃ v0_ : Value, e = .returned (.tuple #[v0_, .bool r2]) ∧ Kd.R (Kd.int .i64) 3 w' w.heap.size (fun _ => True) v0_ r1 ∧ Below w.heap.size w w' := by
 have hu28 := Tryz.underlying28
 have HR0_0 := Aside0.mk hr0_0
 have HC0_0 := Aside0.mk hc0_0
 clear hr0_0 hc0_0
 have HB := Aside0.mk (Below.refl w.heap.size w)
 unfold impl_NeedlessClues.f at h
 have H := h
 clear h
 replace H := bd_ H; obtain ⟨t441, A2, H⟩ := H
 by_cases c3 : t441 = true
 rotate_left
 · replace H := bf_ c3 H; obtain ⟨rfl, H⟩ := H
   simp only [Option.some.injEq, Prod.mk.injEq] at H
   obtain ⟨rfl, rfl⟩ := H
   go_enter Tryz.func20, Tryz.ntmps20
   go_wp2_with (first | (refine bx_ 1 #[.slice A0_0 l0_0.length c0_0] 28 ?_; intro gb440 hg w30 hbox hb; have BK440 := Aside0.mk (hbox); have GW440 : Aside0 (w.heap.size ≤ gb440) := bs_ hg zB_; have GE440 := GW440; replace HB := Aside0.mk (below_step zB_ hb); clear hb hbox hg; have hcz31_0 : w30.cell? ⟨gb440, 0, none⟩ = some (.slice A0_0 l0_0.length c0_0) := (blk_cell BK440.out 0).trans rfl; have hfz31_0 := blk_frozen BK440.out 0) | ((with_reducible refine gc_ 14 rfl ?_); refine gL_ 8 Tryz.func14 #[.agg #[.slice A0_0 l0_0.length c0_0]] ?_; (with_reducible refine (impl_IsPuzzle.calls k _ _ l0_0 false _ ?side1 ?side2 A2.out).mono ?_); (case side1 => exact zc15_5_); (case side2 => exact HC0_0.out); rintro e w32 ⟨rfl, hb⟩; refine ⟨_, rfl, ?_⟩; replace BK440 := bb_ BK440 z14_7_ hb; replace HB := Aside0.mk (below_step z14_0_ hb)))
   go_ret2
   exact ⟨_, by first | rfl | (simp [errW_none, errW_some] <;> rfl) | (simp [*, errW_none, errW_some] <;> rfl), by first | exact Kd.R_nil _ _ _ _ _ | exact Kd.N_nil _ _ _ _ _ | exact Kd.V_nil _ _ _ _ _ | exact Kd.Q_nil _ _ _ _ _ | exact Kd.S_nil _ _ _ _ _, by repeat (first | (with_reducible first | exact HB.out | apply below_alloc | apply pw_below_drewN | apply below_drew1 | refine below_set ?_ GE440.out) | exact HB.out)⟩
 subst c3
 rw [if_pos rfl] at H
 obtain ⟨y442, hy442⟩ : ∃ y_ : List Int, y_ = (([] : List Int)) := ⟨_, rfl⟩
 replace H : ((impl_solutions.f k l0_0).bind fun t445 => (impl_NeedlessClues.l0 k y442 (t445.length : Int) (l0_0.length : Int) 0 l0_0)) = some (r1, r2) := by first | (rw [hy442]; with_reducible exact H) | (have H2_ := (Option.bind_some _ _).symm.trans H; rw [hy442]; with_reducible exact H2_) | (have H2_ := (Option.bind_some _ _).symm.trans H; with_reducible exact H2_) | with_reducible exact H | (rw [hy442]; exact H) | exact H
 have Ny442 := Aside0.mk hy442
 clear hy442
 replace H := bd_ H; obtain ⟨t445, A4, H⟩ := H
 have H' := Aside0.mk H
 clear H
 go_enter Tryz.func20, Tryz.ntmps20
 go_wp2_with (first | (refine bx_ 1 #[.slice A0_0 l0_0.length c0_0] 28 ?_; intro gb440 hg w5 hbox hb; have BK440 := Aside0.mk (hbox); have GW440 : Aside0 (w.heap.size ≤ gb440) := bs_ hg zB_; have GE440 := GW440; replace HB := Aside0.mk (below_step zB_ hb); clear hb hbox hg; have hcz6_0 : w5.cell? ⟨gb440, 0, none⟩ = some (.slice A0_0 l0_0.length c0_0) := (blk_cell BK440.out 0).trans rfl; have hfz6_0 := blk_frozen BK440.out 0) | ((with_reducible refine gc_ 14 rfl ?_); refine gL_ 8 Tryz.func14 #[.agg #[.slice A0_0 l0_0.length c0_0]] ?_; (with_reducible refine (impl_IsPuzzle.calls k _ _ l0_0 true _ ?side1 ?side2 A2.out).mono ?_); (case side1 => exact zc15_5_); (case side2 => exact HC0_0.out); rintro e w7 ⟨rfl, hb⟩; refine ⟨_, rfl, ?_⟩; replace BK440 := bb_ BK440 z14_7_ hb; replace HB := Aside0.mk (below_step z14_0_ hb)) | ((with_reducible refine gate_dst (N := 10) rfl ?_); refine Kd.R_lit (Kd.int .i64) _ 3 ?hg (N := 10) ?hd (xs := ([] : List Int)) (inner := []) (ok := fun _ => True) (okp := fun _ => True) ?hr ?hp (fun _ hk => hk) trivial (Below.refl _ _) (Nat.le_refl _) (by simp) ?_; (case hd => rfl); (case hg => rfl); (case hr => exact zc15_11_); (case hp => exact (Reps.none _ _)); intro v443 w8 ho9 hb hg_ hnew_; clear hg_ hnew_; (first | rw [← Ny442.out] at ho9 | (simp only [Int.reduceToNat] at ho9; rw [← Ny442.out] at ho9)); have HO444 := Aside0.mk (Kd.R_lower ho9 (below_size z14_0_)); replace BK440 := bb_ BK440 z14_7_ hb; replace HB := Aside0.mk (below_step z14_0_ hb); clear hb ho9; have hcz10_0 : w8.cell? ⟨gb440, 0, none⟩ = some (.slice A0_0 l0_0.length c0_0) := (blk_cell BK440.out 0).trans rfl; have hfz10_0 := blk_frozen BK440.out 0) | ((with_reducible refine gc_ 80 rfl ?_); refine gL_ 13 Tryz.func80 #[.slice A0_0 l0_0.length c0_0] ?_; (with_reducible refine (impl_solutions.calls k _ _ l0_0 t445 _ ?side1 ?side2 A4.out).mono ?_); (case side1 => exact zc15_5_); (case side2 => exact HC0_0.out); rintro e w11 ⟨v446, rfl, ho0, hb⟩; refine ⟨_, rfl, ?_⟩; replace HO444 := Aside0.mk (Kd.R_below (rr_ HO444.out) hb); have HO447 := Aside0.mk (Kd.R_lower ho0 (below_size z14_0_)); replace BK440 := bb_ BK440 z14_7_ hb; replace HB := Aside0.mk (below_step z14_0_ hb); obtain ⟨Ao12, co12, eo12⟩ := Kd.R_slice HO447.out; subst eo12; have hcz13_0 : w11.cell? ⟨gb440, 0, none⟩ = some (.slice A0_0 l0_0.length c0_0) := (blk_cell BK440.out 0).trans rfl; have hfz13_0 := blk_frozen BK440.out 0))
 go_loopg [4, 18] k (fun kq v4 v18 w' => ∃ (x4_1 : List Int) (x18_1 : Int), v18 = .int .i64 x18_1 ∧ Aside0 (impl_NeedlessClues.l0 kq x4_1 (t445.length : Int) (l0_0.length : Int) x18_1 l0_0 = some (r1, r2)) ∧ Aside0 (kq ≤ k) ∧ Aside0 (Kd.R (Kd.int .i64) 3 w' w.heap.size (fun _ => True) v4 x4_1) ∧ Aside0 (w'.heap[gb440]? = some (.cells #[(.slice A0_0 l0_0.length c0_0)] 28 (0, 0))) ∧ Aside0 (Below w.heap.size w w'))
 case atStart => exact ⟨(y442), (0), zV_, H', ⟨Nat.le_refl _⟩, ⟨rr_ HO444.out⟩, ⟨b_ BK440.out⟩, ⟨by repeat (first | (with_reducible first | exact HB.out | apply below_alloc | apply pw_below_drewN | apply below_drew1 | refine below_set ?_ GE440.out) | exact HB.out)⟩⟩
 case round =>
  clear H'
  obtain ⟨x4_1, x18_1, rfl, HA, HK1, HO_4, BK440, HB⟩ := hrel
  cases gk with
  | zero => exact absurd HA.out (by simp [impl_NeedlessClues.l0])
  | succ k1 =>
   have H := HA.out
   clear HA
   simp only [impl_NeedlessClues.l0] at H
   by_cases c14 : x18_1 < (l0_0.length : Int)
   rotate_left
   · rw [if_neg c14] at H
     have c14b0 := decide_eq_false c14
     clear c14
     simp only [Option.some.injEq, Prod.mk.injEq] at H
     obtain ⟨rfl, rfl⟩ := H
     go_wp2
     go_ret2
     exact ⟨_, by first | rfl | (simp [errW_none, errW_some] <;> rfl) | (simp [*, errW_none, errW_some] <;> rfl), by exact rr_ HO_4.out, by repeat (first | (with_reducible first | exact HB.out | apply below_alloc | apply pw_below_drewN | apply below_drew1 | refine below_set ?_ GE440.out) | exact HB.out)⟩
   rw [if_pos c14] at H
   have c14b0 := decide_eq_true c14
   clear c14
   replace H := bd_ H; obtain ⟨t448, A15, H⟩ := H
   replace H := bd_ H; obtain ⟨t451, A16, H⟩ := H
   by_cases c17 : (t451.length : Int) = (t445.length : Int)
   · obtain ⟨H, c17b0, c17b1⟩ := ep_ c17 H
     have c17b2 : (t451.length == t445.length) = true := by first | simpa using c17 | (simp at c17 ⊢; omega)
     clear c17
     replace H := gd_ H; obtain ⟨c18, H⟩ := H
     have LMc18 := Aside0.mk c18
     clear c18
     obtain ⟨y454, hy454⟩ : ∃ y_ : List Int, y_ = (x4_1 ++ [x18_1]) := ⟨_, rfl⟩
     replace H : (impl_NeedlessClues.l0 k1 y454 (t445.length : Int) (l0_0.length : Int) (wrap64 (x18_1 + 1)) l0_0) = some (r1, r2) := by first | (rw [hy454]; with_reducible exact H) | (have H2_ := (Option.bind_some _ _).symm.trans H; rw [hy454]; with_reducible exact H2_) | (have H2_ := (Option.bind_some _ _).symm.trans H; with_reducible exact H2_) | with_reducible exact H | (rw [hy454]; exact H) | exact H
     have Ny454 := Aside0.mk hy454
     clear hy454
     have H' := Aside0.mk H
     clear H
     have hcz19_0 : wr.cell? ⟨gb440, 0, none⟩ = some (.slice A0_0 l0_0.length c0_0) := (blk_cell BK440.out 0).trans rfl
     have hfz19_0 := blk_frozen BK440.out 0
     go_wp2_with (first | ((with_reducible refine gc_ 79 rfl ?_); refine gL_ 24 Tryz.func79 #[.slice A0_0 l0_0.length c0_0, .int .i64 x18_1] ?_; (with_reducible refine (impl_dropped.calls _ _ l0_0 x18_1 t448 _ ?side1 ?side2 A15.out).mono ?_); (case side1 => exact zc15_5_); (case side2 => exact HC0_0.out); rintro e w20 ⟨v449, rfl, ho0, hb⟩; refine ⟨_, rfl, ?_⟩; replace HO_4 := Aside0.mk (Kd.R_below z14_5_ hb); have HO450 := Aside0.mk (Kd.R_lower ho0 (below_size z14_0_)); replace BK440 := bb_ BK440 z14_7_ hb; replace HB := Aside0.mk (below_step z14_0_ hb); obtain ⟨Ao21, co21, eo21⟩ := Kd.R_slice HO450.out; subst eo21) | ((with_reducible refine gc_ 80 rfl ?_); refine gL_ 25 Tryz.func80 #[.slice Ao21 t448.length co21] ?_; (with_reducible refine (impl_solutions.calls k1 _ _ t448 t451 _ ?side1 ?side2 A16.out).mono ?_); (case side1 => exact zc15_8_); (case side2 => exact (Kd.R_reads' HO450.out).2.1); rintro e w22 ⟨v452, rfl, ho0, hb⟩; refine ⟨_, rfl, ?_⟩; replace HO_4 := Aside0.mk (Kd.R_below z14_5_ hb); replace HO450 := Aside0.mk (Kd.R_below z14_12_ hb); have HO453 := Aside0.mk (Kd.R_lower ho0 (below_size z14_0_)); replace BK440 := bb_ BK440 z14_7_ hb; replace HB := Aside0.mk (below_step z14_0_ hb); obtain ⟨Ao23, co23, eo23⟩ := Kd.R_slice HO453.out; subst eo23) | ((with_reducible refine gate_builtin (b := .append) (xs := #[.tmp 29, .tmp 31]) rfl ?_); at_builtin; refine Kd.R_append (Kd.int .i64) (w0 := w) w.heap.size rfl (.tmp 29) (.tmp 31) 48 3 (.int .i64 0) 8 rfl Tryz.underlying48 info3 rfl (by decide) (by omega) u4 x4_1 x18_1 [.int .i64 x18_1] (fun _ => True) (fun _ => False) rfl rfl ?aP (fun _ hk => hk.elim) ?aF ?aO ?aB ?aS ?aL ?_; (case aP => exact rfl); (case aB => exact z14_0_); (case aF => exact (fun _ _ => trivial)); (case aO => exact z14_5_); (case aS => exact (below_size z14_0_)); (case aL => have := LMc18.out; omega); intro v455 w24 ho hb hg hat; rw [← Ny454.out] at ho; replace BK440 := Aside0.mk (blk_grown (g := gb440) (o := .cells #[.slice A0_0 l0_0.length c0_0] 28 (0, 0)) z14_7_ hg (Kd.R_ne HO_4.out BK440.out (by decide))); replace HO450 := Aside0.mk (Kd.R_over' z14_12_ (Kd.R_typed z14_5_) (by decide) hg); replace HO453 := Aside0.mk (Kd.R_over' (rr_ HO453.out) (Kd.R_typed z14_5_) (by decide) hg); replace HB := Aside0.mk (hb); have HO456 := Aside0.mk (ho); clear HO_4; clear ho hb hg hat))
     go_roundg k1
     case measure => have := HK1.out; omega
     case rel => exact ⟨(y454), (wrap64 (x18_1 + 1)), zV_, H', ⟨by have := HK1.out; omega⟩, ⟨rr_ HO456.out⟩, ⟨b_ BK440.out⟩, ⟨by repeat (first | (with_reducible first | exact HB.out | apply below_alloc | apply pw_below_drewN | apply below_drew1 | refine below_set ?_ GE440.out) | exact HB.out)⟩⟩
   obtain ⟨H, c17b0, c17b1⟩ := en_ c17 H
   have c17b2 : (t451.length == t445.length) = false := by first | simpa using c17 | (simp at c17 ⊢; omega)
   have H' := Aside0.mk H
   clear H
   have hcz25_0 : wr.cell? ⟨gb440, 0, none⟩ = some (.slice A0_0 l0_0.length c0_0) := (blk_cell BK440.out 0).trans rfl
   have hfz25_0 := blk_frozen BK440.out 0
   go_wp2_with (first | ((with_reducible refine gc_ 79 rfl ?_); refine gL_ 24 Tryz.func79 #[.slice A0_0 l0_0.length c0_0, .int .i64 x18_1] ?_; (with_reducible refine (impl_dropped.calls _ _ l0_0 x18_1 t448 _ ?side1 ?side2 A15.out).mono ?_); (case side1 => exact zc15_5_); (case side2 => exact HC0_0.out); rintro e w26 ⟨v449, rfl, ho0, hb⟩; refine ⟨_, rfl, ?_⟩; replace HO_4 := Aside0.mk (Kd.R_below z14_5_ hb); have HO450 := Aside0.mk (Kd.R_lower ho0 (below_size z14_0_)); replace BK440 := bb_ BK440 z14_7_ hb; replace HB := Aside0.mk (below_step z14_0_ hb); obtain ⟨Ao27, co27, eo27⟩ := Kd.R_slice HO450.out; subst eo27) | ((with_reducible refine gc_ 80 rfl ?_); refine gL_ 25 Tryz.func80 #[.slice Ao27 t448.length co27] ?_; (with_reducible refine (impl_solutions.calls k1 _ _ t448 t451 _ ?side1 ?side2 A16.out).mono ?_); (case side1 => exact zc15_8_); (case side2 => exact (Kd.R_reads' HO450.out).2.1); rintro e w28 ⟨v452, rfl, ho0, hb⟩; refine ⟨_, rfl, ?_⟩; replace HO_4 := Aside0.mk (Kd.R_below z14_5_ hb); replace HO450 := Aside0.mk (Kd.R_below z14_12_ hb); have HO453 := Aside0.mk (Kd.R_lower ho0 (below_size z14_0_)); replace BK440 := bb_ BK440 z14_7_ hb; replace HB := Aside0.mk (below_step z14_0_ hb); obtain ⟨Ao29, co29, eo29⟩ := Kd.R_slice HO453.out; subst eo29))
   go_roundg k1
   case measure => have := HK1.out; omega
   case rel => exact ⟨(x4_1), (wrap64 (x18_1 + 1)), zV_, H', ⟨by have := HK1.out; omega⟩, ⟨rr_ HO_4.out⟩, ⟨b_ BK440.out⟩, ⟨by repeat (first | (with_reducible first | exact HB.out | apply below_alloc | apply pw_below_drewN | apply below_drew1 | refine below_set ?_ GE440.out) | exact HB.out)⟩⟩

/-! ### laws_iTexts: function 21 -/
def laws_iTexts.l0 : Nat → List ByteArray → List ByteArray → Int → Int → Option (Bool)
 | 0, _, _, _, _ => none
 | k + 1, x0, x1, x12, x13 => if x13 < x12 then (if 0 ≤ x13 then (if x13 < (x0.length : Int) then (if x13 < (x1.length : Int) then (if (rdOf ByteArray.empty x0 x13).toList = (rdOf ByteArray.empty x1 x13).toList then (laws_iTexts.l0 k x0 x1 x12 (wrap64 (x13 + 1))) else (some false)) else (none)) else (none)) else (none)) else (some true)
def laws_iTexts.f (k : Nat) (l0 : List ByteArray) (l1 : List ByteArray) : Option (Bool) := if (l0.length : Int) = (l1.length : Int) then (laws_iTexts.l0 k l0 l1 (l0.length : Int) 0) else (some false)
theorem laws_iTexts.mono_l : ∀ k, (∀ y0 y1 y2 y3, LeO (laws_iTexts.l0 k y0 y1 y2 y3) (laws_iTexts.l0 (k + 1) y0 y1 y2 y3))
 | 0 => fun _ _ _ _ r h => by simp [laws_iTexts.l0] at h
 | k + 1 => by
  have ih0 := laws_iTexts.mono_l k
  intro y0 y1 y2 y3
  unfold laws_iTexts.l0
  repeat' first
  | (with_reducible exact ih0 _ _ _ _)
  | (with_reducible exact LeO.refl _)
  | (with_reducible exact LeO.none _)
  | (with_reducible refine LeO.ite ?_ ?_)
  | (with_reducible refine LeO.bind ?_ (fun _ => ?_))
  | exact LeO.none _
  | refine LeO.ite ?_ ?_
  | refine LeO.bind ?_ (fun _ => ?_)
theorem laws_iTexts.mono : ∀ a0 a1 k, LeO (laws_iTexts.f k a0 a1) (laws_iTexts.f (k + 1) a0 a1) := by
 intro a0 a1 k
 have ih0 := laws_iTexts.mono_l k
 unfold laws_iTexts.f
 repeat' first
  | (with_reducible exact ih0 _ _ _ _)
  | (with_reducible exact LeO.refl _)
  | (with_reducible exact LeO.none _)
  | (with_reducible refine LeO.ite ?_ ?_)
  | (with_reducible refine LeO.bind ?_ (fun _ => ?_))
  | exact LeO.none _
  | refine LeO.ite ?_ ?_
  | refine LeO.bind ?_ (fun _ => ?_)
set_option maxHeartbeats 8000000 in
set_option maxRecDepth 100000 in
theorem laws_iTexts.calls (k : Nat) (A0 : Option Addr) (c0 : Nat) (l0 : List ByteArray) (A1 : Option Addr) (c1 : Nat) (l1 : List ByteArray) (r : Bool) (w : World) (hr0 : Kd.C Kd.string w A0 l0.length l0) (hc0 : l0.length ≤ c0) (hr1 : Kd.C Kd.string w A1 l1.length l1) (hc1 : l1.length ≤ c1) (h : laws_iTexts.f k l0 l1 = some r) :
 Calls Tryz.prog 21 #[.slice A0 l0.length c0, .slice A1 l1.length c1] w fun e w' => e = .returned (.bool r) ∧ Drawn0 w w' := by
 have HR0 := Aside0.mk hr0
 have HC0 := Aside0.mk hc0
 clear hr0 hc0
 have HR1 := Aside0.mk hr1
 have HC1 := Aside0.mk hc1
 clear hr1 hc1
 unfold laws_iTexts.f at h
 have H := h
 clear h
 by_cases c3 : (l0.length : Int) = (l1.length : Int)
 rotate_left
 · obtain ⟨H, c3b0, c3b1⟩ := en_ c3 H
   have c3b2 : (l0.length == l1.length) = false := by first | simpa using c3 | (simp at c3 ⊢; omega)
   obtain rfl := Option.some.inj H
   go_enter Tryz.func21, Tryz.ntmps21
   go_wp2
   repeat (go_quiet (fail); try go_wp2)
   go_ret
   exact ⟨by first | rfl | (simp; done) | (simp [*]; done), by repeat (first | exact Drawn0.refl _ | apply Drawn0.step)⟩
 obtain ⟨H, c3b0, c3b1⟩ := ep_ c3 H
 have c3b2 : (l0.length == l1.length) = true := by first | simpa using c3 | (simp at c3 ⊢; omega)
 clear c3
 have H' := Aside0.mk H
 clear H
 go_enter Tryz.func21, Tryz.ntmps21
 go_wp2
 repeat (go_quiet (fail); try go_wp2)
 go_loopg [13] k (fun kq v13 w' => ∃ (x13_1 : Int), v13 = .int .i64 x13_1 ∧ Aside0 (laws_iTexts.l0 kq l0 l1 (l0.length : Int) x13_1 = some r) ∧ Aside0 (kq ≤ k) ∧ Drawn0 w w')
 case atStart => exact ⟨(0), zV_, H', ⟨Nat.le_refl _⟩, by repeat (first | exact Drawn0.refl _ | apply Drawn0.step)⟩
 case round =>
  clear H'
  obtain ⟨x13_1, rfl, HA, HK1, ⟨m1, rfl⟩⟩ := hrel
  cases gk with
  | zero => exact absurd HA.out (by simp [laws_iTexts.l0])
  | succ k1 =>
   have H := HA.out
   clear HA
   simp only [laws_iTexts.l0] at H
   by_cases c4 : x13_1 < (l0.length : Int)
   rotate_left
   · rw [if_neg c4] at H
     have c4b0 := decide_eq_false c4
     clear c4
     obtain rfl := Option.some.inj H
     go_wp2
     repeat (go_quiet (fail); try go_wp2)
     go_ret
     exact ⟨by first | rfl | (simp; done) | (simp [*]; done), by repeat (first | exact Drawn0.refl _ | apply Drawn0.step)⟩
   rw [if_pos c4] at H
   have c4b0 := decide_eq_true c4
   clear c4
   replace H := gd_ H; obtain ⟨c5, H⟩ := H
   have c5b0 : decide (0 ≤ x13_1) = true := decide_eq_true c5
   clear c5
   replace H := gd_ H; obtain ⟨c6, H⟩ := H
   have c6b0 : decide (x13_1 < (l0.length : Int)) = true := decide_eq_true c6
   clear c6
   replace H := gd_ H; obtain ⟨c7, H⟩ := H
   have c7b0 : decide (x13_1 < (l1.length : Int)) = true := decide_eq_true c7
   clear c7
   by_cases c8 : (rdOf ByteArray.empty l0 x13_1).toList = (rdOf ByteArray.empty l1 x13_1).toList
   · rw [if_pos c8] at H
     have c8b0 : ((rdOf ByteArray.empty l0 x13_1).toList == (rdOf ByteArray.empty l1 x13_1).toList) = true := beq_iff_eq.mpr c8
     have c8b1 : ((rdOf ByteArray.empty l0 x13_1).toList != (rdOf ByteArray.empty l1 x13_1).toList) = false := bne_eq_false_iff_eq.mpr c8
     clear c8
     have H' := Aside0.mk H
     clear H
     have p457 : 0 ≤ (x13_1 : Int) := of_decide_eq_true zS_
     have q457 : x13_1 < (l0.length : Int) := of_decide_eq_true zS_
     obtain ⟨ad457, e457, hx457_0⟩ := Kd.at_string HR0.out x13_1 p457 q457
     cases e457
     replace p457 := eq_true p457
     replace q457 := eq_true q457
     have p458 : 0 ≤ (x13_1 : Int) := of_decide_eq_true zS_
     have q458 : x13_1 < (l1.length : Int) := of_decide_eq_true zS_
     obtain ⟨ad458, e458, hx458_0⟩ := Kd.at_string HR1.out x13_1 p458 q458
     cases e458
     replace p458 := eq_true p458
     replace q458 := eq_true q458
     go_wp2
     repeat (go_quiet (fail); try go_wp2)
     go_roundg k1
     case measure => have := HK1.out; omega
     case rel => exact ⟨(wrap64 (x13_1 + 1)), zV_, H', ⟨by have := HK1.out; omega⟩, by repeat (first | exact Drawn0.refl _ | apply Drawn0.step)⟩
   rw [if_neg c8] at H
   have c8b0 : ((rdOf ByteArray.empty l0 x13_1).toList == (rdOf ByteArray.empty l1 x13_1).toList) = false := beq_eq_false_iff_ne.mpr c8
   have c8b1 : ((rdOf ByteArray.empty l0 x13_1).toList != (rdOf ByteArray.empty l1 x13_1).toList) = true := bne_iff_ne.mpr c8
   obtain rfl := Option.some.inj H
   have p457 : 0 ≤ (x13_1 : Int) := of_decide_eq_true zS_
   have q457 : x13_1 < (l0.length : Int) := of_decide_eq_true zS_
   obtain ⟨ad457, e457, hx457_0⟩ := Kd.at_string HR0.out x13_1 p457 q457
   cases e457
   replace p457 := eq_true p457
   replace q457 := eq_true q457
   have p458 : 0 ≤ (x13_1 : Int) := of_decide_eq_true zS_
   have q458 : x13_1 < (l1.length : Int) := of_decide_eq_true zS_
   obtain ⟨ad458, e458, hx458_0⟩ := Kd.at_string HR1.out x13_1 p458 q458
   cases e458
   replace p458 := eq_true p458
   replace q458 := eq_true q458
   go_wp2
   repeat (go_quiet (fail); try go_wp2)
   go_ret
   exact ⟨by first | rfl | (simp; done) | (simp [*]; done), by repeat (first | exact Drawn0.refl _ | apply Drawn0.step)⟩

theorem z15_0_ {p : Prop} (h : p := by exact b_ BK472.out) : p := h
theorem z15_1_ {p : Prop} (h : p := by repeat (first | (with_reducible first | exact HB.out | apply below_alloc | apply pw_below_drewN | apply below_drew1 | refine below_set ?_ GE472.out | refine below_set ?_ GE473.out | refine below_set ?_ GE474.out) | exact HB.out)) : p := h
theorem z15_2_ {p : Prop} (h : p := by exact b_ BK473.out) : p := h
theorem z15_3_ {p : Prop} (h : p := by repeat (first | (with_reducible first | exact HB.out | apply below_alloc | apply pw_below_drewN | apply below_drew1 | refine below_set ?_ GE472.out | refine below_set ?_ GE473.out) | exact HB.out)) : p := h
theorem z15_5_ {p : Prop} (h : p := by repeat (first | (with_reducible first | exact HB.out | apply below_alloc | apply pw_below_drewN | apply below_drew1 | refine below_set ?_ GE472.out) | exact HB.out)) : p := h
theorem z15_6_ {p : Prop} (h : p := by exact b_ BK474.out) : p := h
theorem z15_7_ {p : Prop} (h : p := by (try simp only [List.map_toArray, List.map_cons, List.map_nil]); first | done | rfl | (simp only [List.length_drop, List.length_take]; rfl)) : p := h
theorem z15_8_ {p : Prop} (h : p := by refine b_ ?_; refine blk_put (cs := #[.slice none 0 0]) ?_ 0 _ rfl; exact b_ BK474.out) : p := h
theorem z15_9_ {p : Prop} (h : p := by exact b_ BK459.out) : p := h
theorem z15_10_ {p : Prop} (h : p := by exact b_ BK460.out) : p := h
theorem z15_11_ {p : Prop} (h : p := by repeat (first | (with_reducible first | exact HB.out | apply below_alloc | apply pw_below_drewN | apply below_drew1 | refine below_set ?_ GE459.out) | exact HB.out)) : p := h
theorem z15_12_ {p : Prop} (h : p := by exact rr_ HO479.out) : p := h
theorem z15_13_ {p : Prop} (h : p := by exact rr_ HO482.out) : p := h

/-! ### spec_DrawAddClue: function 22 -/
def spec_DrawAddClue.f (k : Nat) (l0 : List Int) : Option ((List (S37)) × Int × Int × Int) := (spec_l1Cur_puzzle.f k l0 0 0).bind fun bt462 => ((spec_l1Cur_clue.f k l0 bt462.2.1 bt462.2.2).bind fun bt467 => (some (bt462.1, bt467.1, bt467.2.1, bt467.2.2.1)))
theorem spec_DrawAddClue.mono : ∀ a0 k, LeO (spec_DrawAddClue.f k a0) (spec_DrawAddClue.f (k + 1) a0) := by
 intro a0 k
 unfold spec_DrawAddClue.f
 have m1_ := @spec_l1Cur_clue.mono
 have m2_ := @spec_l1Cur_puzzle.mono
 exact zM_
set_option maxHeartbeats 8000000 in
set_option maxRecDepth 100000 in
theorem spec_DrawAddClue.calls (k : Nat) (A0 : Option Addr) (c0 : Nat) (l0 : List Int) (r1 : List (S37)) (r2 : Int) (r3 : Int) (r4 : Int) (w : World) (hr0 : Kd.C (Kd.int .u8) w A0 l0.length l0) (hc0 : l0.length ≤ c0) (h : spec_DrawAddClue.f k l0 = some (r1, r2, r3, r4)) :
 Calls Tryz.prog 22 #[.slice A0 l0.length c0] w fun e w' => ∃ v0_ : Value, e = .returned (.tuple #[.agg #[v0_], .agg #[.int .i64 r2, .int .i64 r3, .int .i64 r4]]) ∧ Kd.R k37 37 w' w.heap.size (fun _ => True) v0_ r1 ∧ Below w.heap.size w w' := by
 have hu28 := Tryz.underlying28
 have hu37 := Tryz.underlying37
 have hu74 := Tryz.underlying74
 have HR0 := Aside0.mk hr0
 have HC0 := Aside0.mk hc0
 clear hr0 hc0
 have HB := Aside0.mk (Below.refl w.heap.size w)
 unfold spec_DrawAddClue.f at h
 have H := h
 clear h
 replace H := bd_ H; obtain ⟨⟨t462, t465, t466⟩, A2, H⟩ := H
 dsimp only at H
 replace H := bd_ H; obtain ⟨⟨t467, t468, t469, t470, t471⟩, A3, H⟩ := H
 dsimp only at H
 simp only [Option.some.injEq, Prod.mk.injEq] at H
 obtain ⟨rfl, rfl, rfl, rfl⟩ := H
 go_enter Tryz.func22, Tryz.ntmps22
 go_wp2_with (first | (refine bx_ 2 #[.slice none 0 0] 28 ?_; intro gb459 hg w4 hbox hb; have BK459 := Aside0.mk (hbox); have GW459 : Aside0 (w.heap.size ≤ gb459) := bs_ hg zB_; have GE459 := GW459; replace HB := Aside0.mk (below_step zB_ hb); clear hb hbox hg) | (refine bx_ 3 #[.int .i64 0, .int .i64 0, .int .i64 0] 37 ?_; intro gb460 hg w5 hbox hb; have BK460 := Aside0.mk (hbox); have GW460 : Aside0 (w.heap.size ≤ gb460) := bs_ hg z15_11_; have GE460 := GW460; replace HB := Aside0.mk (below_step z15_11_ hb); have NB459_460 := nl_ BK459 z15_9_ hg; have NB460_459 := ns_ NB459_460; replace BK459 := bb_ BK459 z15_9_ hb; clear hb hbox hg) | (refine bx_ 7 #[.slice A0 l0.length c0, .int .i64 0, .int .u64 0] 74 ?_; intro gb461 hg w6 hbox hb; have NB459_461 := nl_ BK459 z15_9_ hg; have NB461_459 := ns_ NB459_461; replace BK459 := bb_ BK459 z15_9_ hb; have NB460_461 := nl_ BK460 z15_10_ hg; have NB461_460 := ns_ NB460_461; replace BK460 := bb_ BK460 z15_10_ hb; have HI461 := Aside0.mk ((⟨_, _, hbox, (by rw [hg]; exact (below_size (by repeat (first | (with_reducible first | exact HB.out | apply below_alloc | apply pw_below_drewN | apply below_drew1 | refine below_set ?_ GE459.out | refine below_set ?_ GE460.out) | exact HB.out))) : w.heap.size ≤ gb461), HR0.out⟩ : IsS74 w w6 gb461 l0 0 0)); replace HB := Aside0.mk (below_step (by repeat (first | (with_reducible first | exact HB.out | apply below_alloc | apply pw_below_drewN | apply below_drew1 | refine below_set ?_ GE459.out | refine below_set ?_ GE460.out) | exact HB.out)) hb); clear hb hbox hg) | ((with_reducible refine gc_ 77 rfl ?_); refine gL_ 9 Tryz.func77 #[.pointer (some ⟨gb461, 0, none⟩)] ?_; (with_reducible refine (spec_l1Cur_puzzle.calls k gb461 l0 0 0 t462 t465 t466 w _ ?side1 ?side2 A2.out).mono ?_); (case side1 => exact zc15_0_); (case side2 => exact zc15_1_); rintro e w7 ⟨v463, rfl, ho0, hi, hb, hk⟩; refine ⟨_, rfl, ?_⟩; replace BK459 := Aside0.mk (KeepBut.blk hk (g' := gb459) (o := .cells #[.slice none 0 0] 28 (0, 0)) z15_9_ NB459_461.out (by simp)); have HO464 := Aside0.mk (Kd.R_lower (Kd.R_newB ho0 (g := gb460) (o := .cells #[.int .i64 0, .int .i64 0, .int .i64 0] 37 (0, 0)) z15_10_) (below_size (by repeat (first | (with_reducible first | exact HB.out | apply below_alloc | apply pw_below_drewN | apply below_drew1 | refine below_set ?_ (IsS74.ge HI461.out) | refine below_set ?_ GE459.out | refine below_set ?_ GE460.out) | exact HB.out)))); replace BK460 := Aside0.mk (KeepBut.blk hk (g' := gb460) (o := .cells #[.int .i64 0, .int .i64 0, .int .i64 0] 37 (0, 0)) z15_10_ NB460_461.out (by simp)); replace HB := Aside0.mk (hb); replace HI461 := Aside0.mk (hi)) | ((with_reducible refine gc_ 84 rfl ?_); refine gL_ 11 Tryz.func84 #[.pointer (some ⟨gb461, 0, none⟩)] ?_; (with_reducible refine (spec_l1Cur_clue.calls k gb461 l0 t465 t466 t467 t468 t469 t470 t471 w _ ?side1 ?side2 A3.out).mono ?_); (case side1 => exact zc15_0_); (case side2 => exact zc15_1_); rintro e w8 ⟨rfl, hi, hb, hk⟩; refine ⟨_, rfl, ?_⟩; replace BK459 := Aside0.mk (KeepBut.blk hk (g' := gb459) (o := .cells #[.slice none 0 0] 28 (0, 0)) z15_9_ NB459_461.out (by simp)); replace BK460 := Aside0.mk (KeepBut.blk hk (g' := gb460) (o := .cells #[.int .i64 0, .int .i64 0, .int .i64 0] 37 (0, 0)) z15_10_ NB460_461.out (by simp)); replace HO464 := Aside0.mk (Kd.R_mono (Kd.R_keep (IsS74.apart (show IsS74 w _ gb461 l0 t465 t466 from by repeat (first | (with_reducible first | exact HI461.out | apply IsS74.alloc | apply IsS74.drewN | apply IsS74.drew | apply IsS74.set_1 | apply IsS74.set_2 | refine IsS74.far ?_ NB461_459.out _ | refine IsS74.far ?_ NB461_460.out _) | exact HI461.out)) (rr_ HO464.out) (by decide)) hk (fun _ h => h.2)) (fun _ h => h.1)); replace HB := Aside0.mk (hb); replace HI461 := Aside0.mk (hi); obtain ⟨Ao9, co9, eo9⟩ := Kd.R_slice HO464.out; subst eo9; have hnb10 := NB459_460.out; have hnc10 := NB460_459.out; have hnb11 := NB459_461.out; have hnc11 := NB461_459.out; have hcz12_0 : w8.cell? ⟨gb459, 0, none⟩ = some (.slice none 0 0) := (blk_cell BK459.out 0).trans rfl; have hfz12_0 := blk_frozen BK459.out 0; have hnb13 := NB460_461.out; have hnc13 := NB461_460.out; have hcz14_0 : w8.cell? ⟨gb460, 0, none⟩ = some (.int .i64 0) := (blk_cell BK460.out 0).trans rfl; have hcz14_1 : w8.cell? ⟨gb460, 1, none⟩ = some (.int .i64 0) := (blk_cell BK460.out 1).trans rfl; have hcz14_2 : w8.cell? ⟨gb460, 2, none⟩ = some (.int .i64 0) := (blk_cell BK460.out 2).trans rfl; have hfz14_0 := blk_frozen BK460.out 0; have hfz14_1 := blk_frozen BK460.out 1; have hfz14_2 := blk_frozen BK460.out 2))
 refine bodyPost_ret (results_cc rfl _ _ gb459 gb460 28 37 #[.slice Ao9 t462.length co9] #[.int .i64 t467, .int .i64 t468, .int .i64 t469] (0, 0) (0, 0) _ _ rfl (by refine b_ ?_; refine blk_far ?_ NB459_460.out _; refine b_ ?_; refine blk_far ?_ NB459_460.out _; refine b_ ?_; refine blk_far ?_ NB459_460.out _; refine b_ ?_; refine blk_put (cs := #[.slice none 0 0]) ?_ 0 _ rfl; exact b_ BK459.out) Tryz.underlying28 rfl (by kernel_rfl) rfl (by refine b_ ?_; refine blk_put (cs := #[.int .i64 t467, .int .i64 t468, .int .i64 0]) ?_ 2 _ rfl; refine b_ ?_; refine blk_put (cs := #[.int .i64 t467, .int .i64 0, .int .i64 0]) ?_ 1 _ rfl; refine b_ ?_; refine blk_put (cs := #[.int .i64 0, .int .i64 0, .int .i64 0]) ?_ 0 _ rfl; refine b_ ?_; refine blk_far ?_ NB460_459.out _; exact b_ BK460.out) Tryz.underlying37 rfl (by kernel_rfl)) rfl ?_
 exact ⟨_, by first | rfl | (simp [errW_none, errW_some] <;> rfl) | (simp [*, errW_none, errW_some] <;> rfl), by refine rr_ ?_; exact Kd.R_mono (Kd.R_far (p := ⟨gb460, 2, none⟩) (Kd.R_far (p := ⟨gb460, 1, none⟩) (Kd.R_far (p := ⟨gb460, 0, none⟩) (Kd.R_far (p := ⟨gb459, 0, none⟩) (Kd.R_mono (Kd.R_types HO464.out BK459.out (by decide)) (fun k_ hk => (⟨hk, hk.1.2⟩ : _ ∧ k_ ≠ gb460))) (fun _ hk => hk.1.2) (.slice Ao9 t462.length co9)) (fun _ hk => hk.2) (.int .i64 t467)) (fun _ hk => hk.2) (.int .i64 t468)) (fun _ hk => hk.2) (.int .i64 t469)) (fun _ hk => trivial), by repeat (first | (with_reducible first | exact HB.out | apply below_alloc | apply pw_below_drewN | apply below_drew1 | refine below_set ?_ (IsS74.ge HI461.out) | refine below_set ?_ GE459.out | refine below_set ?_ GE460.out) | exact HB.out)⟩

/-! ### impl_AddClue: function 23 -/
def impl_AddClue.f (k : Nat) (l0_0 : List (S37)) (a1_0 : Int) (a1_1 : Int) (a1_2 : Int) : Option ((List (S37)) × Bool) := (impl_IsPuzzle.f k l0_0).bind fun t475 => (if t475 = true then ((impl_IsClue.f k a1_0 a1_1 a1_2).bind fun t476 => (if t476 = true then (if (l0_0.length : Int) = 6 then (some (([] : List (S37)), false)) else ((slices_Clone_clue.f l0_0).bind fun t477 => ((some (([(⟨a1_0, a1_1, a1_2⟩ : S37)] : List (S37)) : List (S37))).bind fun y480 => (if t477.length + y480.length < 5864062014805 then (some ((t477 ++ y480), true)) else (none))))) else (some (([] : List (S37)), false)))) else (some (([] : List (S37)), false)))
theorem impl_AddClue.mono : ∀ a0 a1 a2 a3 k, LeO (impl_AddClue.f k a0 a1 a2 a3) (impl_AddClue.f (k + 1) a0 a1 a2 a3) := by
 intro a0 a1 a2 a3 k
 unfold impl_AddClue.f
 have m1_ := @impl_IsClue.mono
 have m2_ := @impl_IsPuzzle.mono
 exact zM_
def impl_AddClue.T3 : Bool × List (List Nat × List Nat) := (true, [([], []), ([0], [0]), ([1], [1]), ([], []), ([3], [3]), ([2, 4, 2], [2, 4]), ([5], [5]), ([6, 5, 0, 1, 2, 3, 4, 5, 6], [6]), ([7, 0, 1, 2, 3, 4, 5, 6, 7], [])])
def impl_AddClue.B3 : List Nat := [0, 1, 3, 0, 8, 31, 63, 127, 255]
theorem impl_AddClue.tab3 : rtab .any (opsOf Tryz.f23 3) = impl_AddClue.T3 := by kernel_rfl
theorem impl_AddClue.bits3 : waitsOk impl_AddClue.T3.2 impl_AddClue.B3 = true := by kernel_rfl
set_option maxHeartbeats 8000000 in
set_option maxRecDepth 100000 in
theorem impl_AddClue.calls (k : Nat) (A0_0 : Option Addr) (c0_0 : Nat) (l0_0 : List (S37)) (a1_0 : Int) (a1_1 : Int) (a1_2 : Int) (r1 : List (S37)) (r2 : Bool) (w : World) (hr0_0 : Kd.C k37 w A0_0 l0_0.length l0_0) (hc0_0 : l0_0.length ≤ c0_0) (h : impl_AddClue.f k l0_0 a1_0 a1_1 a1_2 = some (r1, r2)) :
 Calls Tryz.prog 23 #[.agg #[.slice A0_0 l0_0.length c0_0], .agg #[.int .i64 a1_0, .int .i64 a1_1, .int .i64 a1_2]] w fun e w' => ∃ v0_ : Value, e = .returned (.tuple #[.agg #[v0_], .bool r2]) ∧ Kd.R k37 37 w' w.heap.size (fun _ => True) v0_ r1 ∧ Below w.heap.size w w' := by
 have hu28 := Tryz.underlying28
 have hu37 := Tryz.underlying37
 have HR0_0 := Aside0.mk hr0_0
 have HC0_0 := Aside0.mk hc0_0
 clear hr0_0 hc0_0
 have HB := Aside0.mk (Below.refl w.heap.size w)
 unfold impl_AddClue.f at h
 have H := h
 clear h
 replace H := bd_ H; obtain ⟨t475, A3, H⟩ := H
 by_cases c4 : t475 = true
 · subst c4
   rw [if_pos rfl] at H
   replace H := bd_ H; obtain ⟨t476, A5, H⟩ := H
   by_cases c6 : t476 = true
   · subst c6
     rw [if_pos rfl] at H
     by_cases c7 : (l0_0.length : Int) = 6
     · obtain ⟨H, c7b0, c7b1⟩ := ep_ c7 H
       clear c7
       simp only [Option.some.injEq, Prod.mk.injEq] at H
       obtain ⟨rfl, rfl⟩ := H
       go_enter Tryz.func23, Tryz.ntmps23
       go_wp2_with (first | (refine bxg_ 2 #[.slice A0_0 l0_0.length c0_0] 28 ?_; intro gb472 hg w8 hbox hb; have BK472 := Aside0.mk (hbox); have GW472 : Aside0 (w.heap.size ≤ gb472) := bs_ hg zB_; have GE472 := GW472; replace HB := Aside0.mk (below_step zB_ hb); clear hb hbox hg) | (refine bxg_ 3 #[.int .i64 a1_0, .int .i64 a1_1, .int .i64 a1_2] 37 ?_; intro gb473 hg w9 hbox hb; have BK473 := Aside0.mk (hbox); have GW473 : Aside0 (w.heap.size ≤ gb473) := bs_ hg z15_5_; have GE473 := GW473; replace HB := Aside0.mk (below_step z15_5_ hb); have NB472_473 := nl_ BK472 z15_0_ hg; have NB473_472 := ns_ NB472_473; replace BK472 := bb_ BK472 z15_0_ hb; clear hb hbox hg) | (refine bxg_ 4 #[.slice none 0 0] 28 ?_; intro gb474 hg w10 hbox hb; have BK474 := Aside0.mk (hbox); have GW474 : Aside0 (w.heap.size ≤ gb474) := bs_ hg z15_3_; have GE474 := GW474; replace HB := Aside0.mk (below_step z15_3_ hb); have NB472_474 := nl_ BK472 z15_0_ hg; have NB474_472 := ns_ NB472_474; replace BK472 := bb_ BK472 z15_0_ hb; have NB473_474 := nl_ BK473 z15_2_ hg; have NB474_473 := ns_ NB473_474; replace BK473 := bb_ BK473 z15_2_ hb; clear hb hbox hg; have hnb11 := NB472_473.out; have hnc11 := NB473_472.out; have hnb12 := NB472_474.out; have hnc12 := NB474_472.out; have hcz13_0 : w10.cell? ⟨gb472, 0, none⟩ = some (.slice A0_0 l0_0.length c0_0) := (blk_cell BK472.out 0).trans rfl; have hfz13_0 := blk_frozen BK472.out 0) | ((with_reducible refine gc_ 14 rfl ?_); refine gL_ 7 Tryz.func14 #[.agg #[.slice A0_0 l0_0.length c0_0]] ?_; (with_reducible refine (impl_IsPuzzle.calls k _ _ l0_0 true _ ?side1 ?side2 A3.out).mono ?_); (case side1 => exact zc15_5_); (case side2 => exact HC0_0.out); rintro e w14 ⟨rfl, hb⟩; refine ⟨_, rfl, ?_⟩; replace BK472 := bb_ BK472 z15_0_ hb; replace BK473 := bb_ BK473 z15_2_ hb; replace BK474 := bb_ BK474 z15_6_ hb; replace HB := Aside0.mk (below_step z15_1_ hb); have hnb15 := NB473_474.out; have hnc15 := NB474_473.out; have hcz16_0 : w14.cell? ⟨gb473, 0, none⟩ = some (.int .i64 a1_0) := (blk_cell BK473.out 0).trans rfl; have hcz16_1 : w14.cell? ⟨gb473, 1, none⟩ = some (.int .i64 a1_1) := (blk_cell BK473.out 1).trans rfl; have hcz16_2 : w14.cell? ⟨gb473, 2, none⟩ = some (.int .i64 a1_2) := (blk_cell BK473.out 2).trans rfl; have hfz16_0 := blk_frozen BK473.out 0; have hfz16_1 := blk_frozen BK473.out 1; have hfz16_2 := blk_frozen BK473.out 2) | (go_at_call 31; (with_reducible refine (impl_IsClue.calls k a1_0 a1_1 a1_2 true _ A5.out).mono ?_); rintro e w17 ⟨rfl, hb⟩; replace BK472 := bb_ BK472 z15_0_ hb; replace BK473 := bb_ BK473 z15_2_ hb; replace BK474 := bb_ BK474 z15_6_ hb; replace HB := Aside0.mk (below_step z15_1_ hb); have hcz18_0 : w17.cell? ⟨gb472, 0, none⟩ = some (.slice A0_0 l0_0.length c0_0) := (blk_cell BK472.out 0).trans rfl; have hfz18_0 := blk_frozen BK472.out 0; have hcz19_0 : w17.cell? ⟨gb474, 0, none⟩ = some (.slice none 0 0) := (blk_cell BK474.out 0).trans rfl; have hfz19_0 := blk_frozen BK474.out 0))
       refine bodyPost_ret (results_ct rfl _ _ gb474 28 #[.slice none 0 0] (0, 0) _ rfl z15_8_ Tryz.underlying28 rfl (by kernel_rfl)) rfl ?_
       exact ⟨_, by first | rfl | (simp [errW_none, errW_some] <;> rfl) | (simp [*, errW_none, errW_some] <;> rfl), by first | exact Kd.R_nil _ _ _ _ _ | exact Kd.N_nil _ _ _ _ _ | exact Kd.V_nil _ _ _ _ _ | exact Kd.Q_nil _ _ _ _ _ | exact Kd.S_nil _ _ _ _ _, by repeat (first | (with_reducible first | exact HB.out | apply below_alloc | apply pw_below_drewN | apply below_drew1 | refine below_set ?_ GE472.out | refine below_set ?_ GE473.out | refine below_set ?_ GE474.out) | exact HB.out)⟩
     obtain ⟨H, c7b0, c7b1⟩ := en_ c7 H
     replace H := bd_ H; obtain ⟨t477, A20, H⟩ := H
     obtain ⟨y480, hy480⟩ : ∃ y_ : List (S37), y_ = (([(⟨a1_0, a1_1, a1_2⟩ : S37)] : List (S37))) := ⟨_, rfl⟩
     replace H : (if t477.length + y480.length < 5864062014805 then (some ((t477 ++ y480), true)) else (none)) = some (r1, r2) := by first | (rw [hy480]; with_reducible exact H) | (have H2_ := (Option.bind_some _ _).symm.trans H; rw [hy480]; with_reducible exact H2_) | (have H2_ := (Option.bind_some _ _).symm.trans H; with_reducible exact H2_) | with_reducible exact H | (rw [hy480]; exact H) | exact H
     have Ny480 := Aside0.mk hy480
     clear hy480
     replace H := gd_ H; obtain ⟨c21, H⟩ := H
     have LMc21 := Aside0.mk c21
     clear c21
     obtain ⟨y483, hy483⟩ : ∃ y_ : List (S37), y_ = (t477 ++ y480) := ⟨_, rfl⟩
     replace H : (some (y483, true)) = some (r1, r2) := by first | (rw [hy483]; with_reducible exact H) | (have H2_ := (Option.bind_some _ _).symm.trans H; rw [hy483]; with_reducible exact H2_) | (have H2_ := (Option.bind_some _ _).symm.trans H; with_reducible exact H2_) | with_reducible exact H | (rw [hy483]; exact H) | exact H
     have Ny483 := Aside0.mk hy483
     clear hy483
     simp only [Option.some.injEq, Prod.mk.injEq] at H
     obtain ⟨rfl, rfl⟩ := H
     go_enter Tryz.func23, Tryz.ntmps23
     try go_wp2_with (first | (refine bxg_ 2 #[.slice A0_0 l0_0.length c0_0] 28 ?_; intro gb472 hg w22 hbox hb; have BK472 := Aside0.mk (hbox); have GW472 : Aside0 (w.heap.size ≤ gb472) := bs_ hg zB_; have GE472 := GW472; replace HB := Aside0.mk (below_step zB_ hb); clear hb hbox hg) | (refine bxg_ 3 #[.int .i64 a1_0, .int .i64 a1_1, .int .i64 a1_2] 37 ?_; intro gb473 hg w23 hbox hb; have BK473 := Aside0.mk (hbox); have GW473 : Aside0 (w.heap.size ≤ gb473) := bs_ hg z15_5_; have GE473 := GW473; replace HB := Aside0.mk (below_step z15_5_ hb); have NB472_473 := nl_ BK472 z15_0_ hg; have NB473_472 := ns_ NB472_473; replace BK472 := bb_ BK472 z15_0_ hb; clear hb hbox hg) | (refine bxg_ 4 #[.slice none 0 0] 28 ?_; intro gb474 hg w24 hbox hb; have BK474 := Aside0.mk (hbox); have GW474 : Aside0 (w.heap.size ≤ gb474) := bs_ hg z15_3_; have GE474 := GW474; replace HB := Aside0.mk (below_step z15_3_ hb); have NB472_474 := nl_ BK472 z15_0_ hg; have NB474_472 := ns_ NB472_474; replace BK472 := bb_ BK472 z15_0_ hb; have NB473_474 := nl_ BK473 z15_2_ hg; have NB474_473 := ns_ NB473_474; replace BK473 := bb_ BK473 z15_2_ hb; clear hb hbox hg; have hnb25 := NB472_473.out; have hnc25 := NB473_472.out; have hnb26 := NB472_474.out; have hnc26 := NB474_472.out; have hcz27_0 : w24.cell? ⟨gb472, 0, none⟩ = some (.slice A0_0 l0_0.length c0_0) := (blk_cell BK472.out 0).trans rfl; have hfz27_0 := blk_frozen BK472.out 0) | ((with_reducible refine gc_ 14 rfl ?_); refine gL_ 7 Tryz.func14 #[.agg #[.slice A0_0 l0_0.length c0_0]] ?_; (with_reducible refine (impl_IsPuzzle.calls k _ _ l0_0 true _ ?side1 ?side2 A3.out).mono ?_); (case side1 => exact zc15_5_); (case side2 => exact HC0_0.out); rintro e w28 ⟨rfl, hb⟩; refine ⟨_, rfl, ?_⟩; replace BK472 := bb_ BK472 z15_0_ hb; replace BK473 := bb_ BK473 z15_2_ hb; replace BK474 := bb_ BK474 z15_6_ hb; replace HB := Aside0.mk (below_step z15_1_ hb); have hnb29 := NB473_474.out; have hnc29 := NB474_473.out; have hcz30_0 : w28.cell? ⟨gb473, 0, none⟩ = some (.int .i64 a1_0) := (blk_cell BK473.out 0).trans rfl; have hcz30_1 : w28.cell? ⟨gb473, 1, none⟩ = some (.int .i64 a1_1) := (blk_cell BK473.out 1).trans rfl; have hcz30_2 : w28.cell? ⟨gb473, 2, none⟩ = some (.int .i64 a1_2) := (blk_cell BK473.out 2).trans rfl; have hfz30_0 := blk_frozen BK473.out 0; have hfz30_1 := blk_frozen BK473.out 1; have hfz30_2 := blk_frozen BK473.out 2) | (go_at_call 31; (with_reducible refine (impl_IsClue.calls k a1_0 a1_1 a1_2 true _ A5.out).mono ?_); rintro e w31 ⟨rfl, hb⟩; replace BK472 := bb_ BK472 z15_0_ hb; replace BK473 := bb_ BK473 z15_2_ hb; replace BK474 := bb_ BK474 z15_6_ hb; replace HB := Aside0.mk (below_step z15_1_ hb); have hcz32_0 : w31.cell? ⟨gb472, 0, none⟩ = some (.slice A0_0 l0_0.length c0_0) := (blk_cell BK472.out 0).trans rfl; have hfz32_0 := blk_frozen BK472.out 0))
     replace BK472 := Aside0.mk (blk_drew BK472.out)
     replace BK473 := Aside0.mk (blk_drew BK473.out)
     replace BK474 := Aside0.mk (blk_drew BK474.out)
     replace HB := Aside0.mk (below_drew1 HB.out)
     refine start_ (n := 9) (S := fun w' => w'.cell? ⟨gb472, 0, none⟩ = some (.slice A0_0 l0_0.length c0_0) ∧ w'.cell? ⟨gb473, 0, none⟩ = some (.int .i64 a1_0) ∧ w'.cell? ⟨gb473, 1, none⟩ = some (.int .i64 a1_1) ∧ w'.cell? ⟨gb473, 2, none⟩ = some (.int .i64 a1_2)) (ds := []) #[false, false, false, false, false, false, false, false, false] (by kernel_rfl) rfl rfl ⟨(blk_cell BK472.out 0).trans rfl, (blk_cell BK473.out 0).trans rfl, (blk_cell BK473.out 1).trans rfl, (blk_cell BK473.out 2).trans rfl⟩ (fun hHeld => ?_); refine with_tabW impl_AddClue.tab3 impl_AddClue.bits3 (fun HT_ HW_ => ?_)
     generalize w31.drew = w33 at BK472 BK473 BK474 HB hHeld ⊢
     refine pq_ 0 21 ?_
     refine take_ (i := 1) (N := some 22) (v := ?_) (a' := ?_) #[true, true, false, false, false, false, false, false, false] rfl rfl (take_ofW HT_.out HW_.out (by kernel_rfl)) (fun _ _ _ h => h) (Or.inl ⟨by rfl, ?_⟩) hHeld ?_ ?_
     rotate_left
     · rintro w' ⟨s0, s1, s2, s3⟩
       go_simp
       with_reducible rfl
     rotate_left
     · simp only [Act.put, List.setIfInBounds_toArray, List.set_cons_zero, List.set_cons_succ, i64_w, i32_w]
       rfl
     refine take_ (i := 3) (N := some 24) (v := ?_) (a' := ?_) #[true, true, false, true, false, false, false, false, false] rfl rfl (take_ofW HT_.out HW_.out (by kernel_rfl)) (fun _ _ _ h => h) (Or.inl ⟨by rfl, ?_⟩) hHeld ?_ ?_
     rotate_left
     · rintro w' ⟨s0, s1, s2, s3⟩
       go_simp
       with_reducible rfl
     rotate_left
     · simp only [Act.put, List.setIfInBounds_toArray, List.set_cons_zero, List.set_cons_succ, i64_w, i32_w]
       rfl
     refine join_ (σ := Value × Value) 4 #[true, true, true, true, true, false, false, false, false] (fun s_ => [(23, s_.1), (25, s_.2)]) (fun s_ w' => (w'.cell? ⟨gb472, 0, none⟩ = some (.slice A0_0 l0_0.length c0_0) ∧ w'.cell? ⟨gb473, 0, none⟩ = some (.int .i64 a1_0) ∧ w'.cell? ⟨gb473, 1, none⟩ = some (.int .i64 a1_1) ∧ w'.cell? ⟨gb473, 2, none⟩ = some (.int .i64 a1_2)) ∧ (Kd.R k37 37 w' w.heap.size (fun k_ => some k_ ≠ (s_.2 : Value).ownBlock ∧ k_ ≠ gb473) s_.1 t477) ∧ (Kd.R k37 37 w' w.heap.size (fun k_ => some k_ ≠ (s_.1 : Value).ownBlock ∧ k_ ≠ gb473) s_.2 y480) ∧ (w'.heap[gb472]? = some (.cells #[.slice A0_0 l0_0.length c0_0] 28 (0, 0))) ∧ (w'.heap[gb473]? = some (.cells #[.int .i64 a1_0, .int .i64 a1_1, .int .i64 a1_2] 37 (0, 0))) ∧ (w'.heap[gb474]? = some (.cells #[.slice none 0 0] 28 (0, 0))) ∧ (Below w.heap.size w w')) ?_ ?_
     rotate_left
     · intro hCont
       refine two_ (i := 2) (j := 4) (Ni := some 23) (Nj := some 25) #[true, true, true, true, false, false, false, false, false] #[true, true, false, true, true, false, false, false, false] rfl rfl rfl rfl (two_of HT_.out (by kernel_rfl)) (by decide) (by decide) (fun K hK => ?_) (fun K hK => ?_)
       · skip
         refine goes_ Tryz.func78 (by kernel_rfl) rfl #[.slice A0_0 l0_0.length c0_0] (by rfl) rfl rfl z15_7_ ?_
         with_reducible refine (slices_Clone_clue.calls _ _ l0_0 t477 _ ?side1 ?side2 A20.out).mono ?_
         (case side1 => exact zc15_5_)
         (case side2 => exact HC0_0.out)
         rintro e w34 ⟨v478, rfl, ho0, hb⟩
         refine ⟨_, rfl, ?_⟩
         have HO479 := Aside0.mk (Kd.R_lower (Kd.R_newB ho0 (g := gb473) (o := .cells #[.int .i64 a1_0, .int .i64 a1_1, .int .i64 a1_2] 37 (0, 0)) z15_2_) (below_size z15_1_))
         replace BK472 := bb_ BK472 z15_0_ hb
         replace BK473 := bb_ BK473 z15_2_ hb
         replace BK474 := bb_ BK474 z15_6_ hb
         replace HB := Aside0.mk (below_step z15_1_ hb)
         
         
         
         
         
         refine hK.out _ _ ⟨(blk_cell BK472.out 0).trans rfl, (blk_cell BK473.out 0).trans rfl, (blk_cell BK473.out 1).trans rfl, (blk_cell BK473.out 2).trans rfl⟩ (fun hHeld => ?_)
         clear hK K
         refine norm_ (a' := ?_) ?_ ?_
         rotate_left
         · show Act.put _ (some 23) _ = _
           simp only [Act.put, List.setIfInBounds_toArray, List.set_cons_zero, List.set_cons_succ, i64_w, i32_w]
           rfl
         refine one_ (i := 4) (N := some 25) #[true, true, true, true, true, false, false, false, false] rfl rfl (one_of HT_.out (by kernel_rfl)) (by decide) (fun K hK => ?_)
         refine Kd.R_lit_step k37 _ 37 ?hg (N := 25) ?hd (xs := ([(⟨a1_0, a1_1, a1_2⟩ : S37)] : List (S37))) (inner := [.int .i64 a1_0, .int .i64 a1_1, .int .i64 a1_2]) (ok := fun _ => True) (okp := fun _ => True) ?hr ?hp (fun _ hk => hk) trivial (Below.refl _ _) (Nat.le_refl _) (by simp) ?_; (case hd => rfl); (case hg => rfl); (case hr => exact zc15_11_); (case hp => exact zc15_4_)
         intro v481 w35 ho36 hb hg_ hnew_
         clear hg_ hnew_
         (first | rw [← Ny480.out] at ho36 | (simp only [Int.reduceToNat] at ho36; rw [← Ny480.out] at ho36))
         have HO482 := Aside0.mk (Kd.R_lower (Kd.R_newB (Kd.R_new' ho36 (Kd.R_lt z15_12_)) (g := gb473) (o := .cells #[.int .i64 a1_0, .int .i64 a1_1, .int .i64 a1_2] 37 (0, 0)) z15_2_) (below_size z15_1_))
         replace HO479 := Aside0.mk (Kd.R_elder' z15_12_ (Kd.R_base ho36) hb)
         replace BK472 := bb_ BK472 z15_0_ hb
         replace BK473 := bb_ BK473 z15_2_ hb
         replace BK474 := bb_ BK474 z15_6_ hb
         replace HB := Aside0.mk (below_step z15_1_ hb)
         clear hb ho36
         refine hK.out _ _ ⟨(blk_cell BK472.out 0).trans rfl, (blk_cell BK473.out 0).trans rfl, (blk_cell BK473.out 1).trans rfl, (blk_cell BK473.out 2).trans rfl⟩ (fun hHeld => ?_)
         clear hK K
         refine norm_ (a' := ?_) ?_ ?_
         rotate_left
         · show Act.put _ (some 25) _ = _
           simp only [Act.put, List.setIfInBounds_toArray, List.set_cons_zero, List.set_cons_succ, i64_w, i32_w]
           rfl
         exact norm_ zq15_3_ (hCont (v478, v481) _ ⟨hHeld, (by refine rr_ ?_; exact Kd.R_mono HO479.out (fun _ hk => ⟨hk.2, hk.1.2⟩)), (by refine rr_ ?_; exact Kd.R_mono HO482.out (fun _ hk => ⟨hk.1.2, hk.2⟩)), z15_0_, z15_2_, z15_6_, z15_1_⟩)
       skip
       refine Kd.R_lit_step k37 _ 37 ?hg (N := 25) ?hd (xs := ([(⟨a1_0, a1_1, a1_2⟩ : S37)] : List (S37))) (inner := [.int .i64 a1_0, .int .i64 a1_1, .int .i64 a1_2]) (ok := fun _ => True) (okp := fun _ => True) ?hr ?hp (fun _ hk => hk) trivial (Below.refl _ _) (Nat.le_refl _) (by simp) ?_; (case hd => rfl); (case hg => rfl); (case hr => exact zc15_11_); (case hp => exact zc15_4_)
       intro v481 w34 ho35 hb hg_ hnew_
       clear hg_ hnew_
       (first | rw [← Ny480.out] at ho35 | (simp only [Int.reduceToNat] at ho35; rw [← Ny480.out] at ho35))
       have HO482 := Aside0.mk (Kd.R_lower (Kd.R_newB ho35 (g := gb473) (o := .cells #[.int .i64 a1_0, .int .i64 a1_1, .int .i64 a1_2] 37 (0, 0)) z15_2_) (below_size z15_1_))
       replace BK472 := bb_ BK472 z15_0_ hb
       replace BK473 := bb_ BK473 z15_2_ hb
       replace BK474 := bb_ BK474 z15_6_ hb
       replace HB := Aside0.mk (below_step z15_1_ hb)
       clear hb ho35
       refine hK.out _ _ ⟨(blk_cell BK472.out 0).trans rfl, (blk_cell BK473.out 0).trans rfl, (blk_cell BK473.out 1).trans rfl, (blk_cell BK473.out 2).trans rfl⟩ (fun hHeld => ?_)
       clear hK K
       refine norm_ (a' := ?_) ?_ ?_
       rotate_left
       · show Act.put _ (some 25) _ = _
         simp only [Act.put, List.setIfInBounds_toArray, List.set_cons_zero, List.set_cons_succ, i64_w, i32_w]
         rfl
       refine one_ (i := 2) (N := some 23) #[true, true, true, true, true, false, false, false, false] rfl rfl (one_of HT_.out (by kernel_rfl)) (by decide) (fun K hK => ?_)
       refine goes_ Tryz.func78 (by kernel_rfl) rfl #[.slice A0_0 l0_0.length c0_0] (by rfl) rfl rfl z15_7_ ?_
       with_reducible refine (slices_Clone_clue.calls _ _ l0_0 t477 _ ?side1 ?side2 A20.out).mono ?_
       (case side1 => exact zc15_5_)
       (case side2 => exact HC0_0.out)
       rintro e w36 ⟨v478, rfl, ho0, hb⟩
       refine ⟨_, rfl, ?_⟩
       have HO479 := Aside0.mk (Kd.R_lower (Kd.R_newB (Kd.R_new' ho0 (Kd.R_lt z15_13_)) (g := gb473) (o := .cells #[.int .i64 a1_0, .int .i64 a1_1, .int .i64 a1_2] 37 (0, 0)) z15_2_) (below_size z15_1_))
       replace HO482 := Aside0.mk (Kd.R_elder' z15_13_ (Kd.R_base ho0) hb)
       replace BK472 := bb_ BK472 z15_0_ hb
       replace BK473 := bb_ BK473 z15_2_ hb
       replace BK474 := bb_ BK474 z15_6_ hb
       replace HB := Aside0.mk (below_step z15_1_ hb)
       
       
       
       
       
       refine hK.out _ _ ⟨(blk_cell BK472.out 0).trans rfl, (blk_cell BK473.out 0).trans rfl, (blk_cell BK473.out 1).trans rfl, (blk_cell BK473.out 2).trans rfl⟩ (fun hHeld => ?_)
       clear hK K
       refine norm_ (a' := ?_) ?_ ?_
       rotate_left
       · show Act.put _ (some 23) _ = _
         simp only [Act.put, List.setIfInBounds_toArray, List.set_cons_zero, List.set_cons_succ, i64_w, i32_w]
         rfl
       exact norm_ zq15_3_ (hCont (v478, v481) _ ⟨hHeld, (by refine rr_ ?_; exact Kd.R_mono HO479.out (fun _ hk => ⟨hk.1.2, hk.2⟩)), (by refine rr_ ?_; exact Kd.R_mono HO482.out (fun _ hk => ⟨hk.2, hk.1.2⟩)), z15_0_, z15_2_, z15_6_, z15_1_⟩)
     rintro ⟨v478, v481⟩ w37 ⟨hS_, h0_, h1_, h2_, h3_, h4_, h5_⟩
     have n0_ : Aside0 (Kd.R k37 37 w37 w.heap.size (fun k_ => some k_ ≠ (v481 : Value).ownBlock ∧ k_ ≠ gb473) v478 t477) := ⟨h0_⟩
     have n1_ : Aside0 (Kd.R k37 37 w37 w.heap.size (fun k_ => some k_ ≠ (v478 : Value).ownBlock ∧ k_ ≠ gb473) v481 y480) := ⟨h1_⟩
     have n2_ : Aside0 (w37.heap[gb472]? = some (.cells #[.slice A0_0 l0_0.length c0_0] 28 (0, 0))) := ⟨h2_⟩
     have n3_ : Aside0 (w37.heap[gb473]? = some (.cells #[.int .i64 a1_0, .int .i64 a1_1, .int .i64 a1_2] 37 (0, 0))) := ⟨h3_⟩
     have n4_ : Aside0 (w37.heap[gb474]? = some (.cells #[.slice none 0 0] 28 (0, 0))) := ⟨h4_⟩
     have n5_ : Aside0 (Below w.heap.size w w37) := ⟨h5_⟩
     clear BK472
     clear BK473
     clear BK474
     clear HB
     clear h0_ h1_ h2_ h3_ h4_ h5_
     have HO479 := n0_
     have HO482 := n1_
     have BK472 := n2_
     have BK473 := n3_
     have BK474 := n4_
     have HB := n5_
     clear n0_ n1_ n2_ n3_ n4_ n5_
     have hHeld : w37.cell? ⟨gb472, 0, none⟩ = some (.slice A0_0 l0_0.length c0_0) ∧ w37.cell? ⟨gb473, 0, none⟩ = some (.int .i64 a1_0) ∧ w37.cell? ⟨gb473, 1, none⟩ = some (.int .i64 a1_1) ∧ w37.cell? ⟨gb473, 2, none⟩ = some (.int .i64 a1_2) := hS_
     obtain ⟨Ao39, co39, eo39⟩ := Kd.R_slice HO482.out
     (first | subst eo39 | (injection eo39 with f1_ f2_ f3_; have f4_ := f1_.symm; have f5_ := f3_.symm; clear f1_ f2_ f3_; subst f4_; subst f5_))
     refine norm_ (a' := ?_) ?_ ?_
     rotate_left
     · simp only [putAll, Act.put, List.setIfInBounds_toArray, List.set_cons_zero, List.set_cons_succ]
       rfl
     refine one_ (i := 5) (N := some 26) #[true, true, true, true, true, true, false, false, false] rfl rfl (one_of HT_.out (by kernel_rfl)) (by decide) (fun K hK => ?_)
     refine Kd.R_append_rows_step k37 (w0 := w) w.heap.size (by rfl) (.tmp 23) (.tmp 25) 26 37 (.agg #[(.int .i64 0), (.int .i64 0), (.int .i64 0)]) 24 rfl Tryz.underlying26 info37 rfl (by decide) (by omega) v478 t477 y480 _ _ _ (fun k_ => some k_ ≠ (.slice Ao39 y480.length co39 : Value).ownBlock ∧ k_ ≠ gb473) (fun _ => False) rfl rfl ?aO ?aR (fun _ _ h => h) (fun _ h => h.elim) ?aF ?aB ?aS ?aL ?_
     (case aR => repeat (first | exact (Kd.R_reads' HO482.out).2.2 | (with_reducible refine Kd.C_alloc ?_ _) | (with_reducible refine Kd.C_drewN ?_ _) | (with_reducible refine Kd.C_drew ?_)))
     (case aB => exact z15_1_)
     (case aF => exact (fun k_ hk => ⟨Kd.fresh' (Kd.R_lt z15_13_) k_ hk, Kd.freshB (g := gb473) (o := .cells #[.int .i64 a1_0, .int .i64 a1_1, .int .i64 a1_2] 37 (0, 0)) z15_2_ k_ hk⟩))
     (case aO => exact z15_12_)
     (case aS => exact (below_size z15_1_))
     (case aL => have := LMc21.out; omega)
     intro v484 w38 ho hb hg hat
     rw [← Ny483.out] at ho
     replace BK472 := Aside0.mk (blk_grown (g := gb472) (o := .cells #[.slice A0_0 l0_0.length c0_0] 28 (0, 0)) z15_0_ hg (Kd.R_ne HO479.out BK472.out (by decide)))
     replace BK473 := Aside0.mk (blk_grown (g := gb473) (o := .cells #[.int .i64 a1_0, .int .i64 a1_1, .int .i64 a1_2] 37 (0, 0)) z15_2_ hg (Kd.R_away HO479.out (fun _ hk => hk.2)))
     replace BK474 := Aside0.mk (blk_grown (g := gb474) (o := .cells #[.slice none 0 0] 28 (0, 0)) z15_6_ hg (Kd.R_ne HO479.out BK474.out (by decide)))
     replace HO482 := Aside0.mk (Kd.R_after (ok := (fun k_ => k_ ≠ gb473)) (by refine rr_ ?_; exact Kd.R_mono HO482.out (fun _ hk => ⟨hk.2, hk.1⟩)) hg hat)
     replace HB := Aside0.mk (hb)
     have HO485 := Aside0.mk (ho)
     clear HO479
     clear ho hb hg hat
     obtain ⟨Ao40, co40, eo40⟩ := Kd.R_slice HO485.out
     (first | subst eo40 | (injection eo40 with f1_ f2_ f3_; have f4_ := f1_.symm; have f5_ := f3_.symm; clear f1_ f2_ f3_; subst f4_; subst f5_))
     refine hK.out _ _ ⟨(blk_cell BK472.out 0).trans rfl, (blk_cell BK473.out 0).trans rfl, (blk_cell BK473.out 1).trans rfl, (blk_cell BK473.out 2).trans rfl⟩ (fun hHeld => ?_)
     clear hK K
     refine norm_ (a' := ?_) ?_ ?_
     rotate_left
     · show Act.put _ (some 26) _ = _
       simp only [Act.put, List.setIfInBounds_toArray, List.set_cons_zero, List.set_cons_succ, i64_w, i32_w]
       rfl
     refine pq_ 6 27 ?_
     refine one_ (i := 7) (N := none) #[true, true, true, true, true, true, true, true, false] rfl rfl (one_of HT_.out (by kernel_rfl)) (by decide) (fun K hK => ?_)
     have hs41 : w38.cell? ⟨gb474, 0, none⟩ = some (.slice none 0 0) := (blk_cell BK474.out 0).trans rfl
     have hfs41 := blk_frozen BK474.out 0
     have hns41_0 := NB472_474.out
     have hns41_1 := NB473_474.out
     have hms41_0 := NB474_472.out
     have hms41_1 := NB474_473.out
     refine skip_ (w1 := ?_) (by rfl) rfl ?_ ?_
     rotate_left
     · go_simp
       rfl
     refine hK.out _ _ ⟨((cell_far (p := ⟨gb474, _, none⟩) NB472_474.out _).trans (hHeld.1)), ((cell_far (p := ⟨gb474, _, none⟩) NB473_474.out _).trans (hHeld.2.1)), ((cell_far (p := ⟨gb474, _, none⟩) NB473_474.out _).trans (hHeld.2.2.1)), ((cell_far (p := ⟨gb474, _, none⟩) NB473_474.out _).trans (hHeld.2.2.2))⟩ (fun hHeld => ?_)
     clear hK K
     refine pq_ 8 5 ?_
     refine done_ (done_of HT_.out (by kernel_rfl)) ?_
     try go_wp2
     refine bodyPost_ret (results_ct rfl _ _ gb474 28 #[.slice Ao40 y483.length co40] (0, 0) _ rfl z15_8_ Tryz.underlying28 rfl (by kernel_rfl)) rfl ?_
     exact ⟨_, by first | rfl | (simp [errW_none, errW_some] <;> rfl) | (simp [*, errW_none, errW_some] <;> rfl), by refine rr_ ?_; exact Kd.R_mono (Kd.R_far (p := ⟨gb474, 0, none⟩) (Kd.R_types HO485.out BK474.out (by decide)) (fun _ hk => hk.2) (.slice Ao40 y483.length co40)) (fun _ hk => trivial), by repeat (first | (with_reducible first | exact HB.out | apply below_alloc | apply pw_below_drewN | apply below_drew1 | refine below_set ?_ GE472.out | refine below_set ?_ GE473.out | refine below_set ?_ GE474.out) | exact HB.out)⟩
   replace H := bf_ c6 H; obtain ⟨rfl, H⟩ := H
   simp only [Option.some.injEq, Prod.mk.injEq] at H
   obtain ⟨rfl, rfl⟩ := H
   go_enter Tryz.func23, Tryz.ntmps23
   go_wp2_with (first | (refine bxg_ 2 #[.slice A0_0 l0_0.length c0_0] 28 ?_; intro gb472 hg w42 hbox hb; have BK472 := Aside0.mk (hbox); have GW472 : Aside0 (w.heap.size ≤ gb472) := bs_ hg zB_; have GE472 := GW472; replace HB := Aside0.mk (below_step zB_ hb); clear hb hbox hg) | (refine bxg_ 3 #[.int .i64 a1_0, .int .i64 a1_1, .int .i64 a1_2] 37 ?_; intro gb473 hg w43 hbox hb; have BK473 := Aside0.mk (hbox); have GW473 : Aside0 (w.heap.size ≤ gb473) := bs_ hg z15_5_; have GE473 := GW473; replace HB := Aside0.mk (below_step z15_5_ hb); have NB472_473 := nl_ BK472 z15_0_ hg; have NB473_472 := ns_ NB472_473; replace BK472 := bb_ BK472 z15_0_ hb; clear hb hbox hg) | (refine bxg_ 4 #[.slice none 0 0] 28 ?_; intro gb474 hg w44 hbox hb; have BK474 := Aside0.mk (hbox); have GW474 : Aside0 (w.heap.size ≤ gb474) := bs_ hg z15_3_; have GE474 := GW474; replace HB := Aside0.mk (below_step z15_3_ hb); have NB472_474 := nl_ BK472 z15_0_ hg; have NB474_472 := ns_ NB472_474; replace BK472 := bb_ BK472 z15_0_ hb; have NB473_474 := nl_ BK473 z15_2_ hg; have NB474_473 := ns_ NB473_474; replace BK473 := bb_ BK473 z15_2_ hb; clear hb hbox hg; have hnb45 := NB472_473.out; have hnc45 := NB473_472.out; have hnb46 := NB472_474.out; have hnc46 := NB474_472.out; have hcz47_0 : w44.cell? ⟨gb472, 0, none⟩ = some (.slice A0_0 l0_0.length c0_0) := (blk_cell BK472.out 0).trans rfl; have hfz47_0 := blk_frozen BK472.out 0) | ((with_reducible refine gc_ 14 rfl ?_); refine gL_ 7 Tryz.func14 #[.agg #[.slice A0_0 l0_0.length c0_0]] ?_; (with_reducible refine (impl_IsPuzzle.calls k _ _ l0_0 true _ ?side1 ?side2 A3.out).mono ?_); (case side1 => exact zc15_5_); (case side2 => exact HC0_0.out); rintro e w48 ⟨rfl, hb⟩; refine ⟨_, rfl, ?_⟩; replace BK472 := bb_ BK472 z15_0_ hb; replace BK473 := bb_ BK473 z15_2_ hb; replace BK474 := bb_ BK474 z15_6_ hb; replace HB := Aside0.mk (below_step z15_1_ hb); have hnb49 := NB473_474.out; have hnc49 := NB474_473.out; have hcz50_0 : w48.cell? ⟨gb473, 0, none⟩ = some (.int .i64 a1_0) := (blk_cell BK473.out 0).trans rfl; have hcz50_1 : w48.cell? ⟨gb473, 1, none⟩ = some (.int .i64 a1_1) := (blk_cell BK473.out 1).trans rfl; have hcz50_2 : w48.cell? ⟨gb473, 2, none⟩ = some (.int .i64 a1_2) := (blk_cell BK473.out 2).trans rfl; have hfz50_0 := blk_frozen BK473.out 0; have hfz50_1 := blk_frozen BK473.out 1; have hfz50_2 := blk_frozen BK473.out 2) | (go_at_call 31; (with_reducible refine (impl_IsClue.calls k a1_0 a1_1 a1_2 false _ A5.out).mono ?_); rintro e w51 ⟨rfl, hb⟩; replace BK472 := bb_ BK472 z15_0_ hb; replace BK473 := bb_ BK473 z15_2_ hb; replace BK474 := bb_ BK474 z15_6_ hb; replace HB := Aside0.mk (below_step z15_1_ hb); have hcz52_0 : w51.cell? ⟨gb474, 0, none⟩ = some (.slice none 0 0) := (blk_cell BK474.out 0).trans rfl; have hfz52_0 := blk_frozen BK474.out 0))
   refine bodyPost_ret (results_ct rfl _ _ gb474 28 #[.slice none 0 0] (0, 0) _ rfl z15_8_ Tryz.underlying28 rfl (by kernel_rfl)) rfl ?_
   exact ⟨_, by first | rfl | (simp [errW_none, errW_some] <;> rfl) | (simp [*, errW_none, errW_some] <;> rfl), by first | exact Kd.R_nil _ _ _ _ _ | exact Kd.N_nil _ _ _ _ _ | exact Kd.V_nil _ _ _ _ _ | exact Kd.Q_nil _ _ _ _ _ | exact Kd.S_nil _ _ _ _ _, by repeat (first | (with_reducible first | exact HB.out | apply below_alloc | apply pw_below_drewN | apply below_drew1 | refine below_set ?_ GE472.out | refine below_set ?_ GE473.out | refine below_set ?_ GE474.out) | exact HB.out)⟩
 replace H := bf_ c4 H; obtain ⟨rfl, H⟩ := H
 simp only [Option.some.injEq, Prod.mk.injEq] at H
 obtain ⟨rfl, rfl⟩ := H
 go_enter Tryz.func23, Tryz.ntmps23
 go_wp2_with (first | (refine bxg_ 2 #[.slice A0_0 l0_0.length c0_0] 28 ?_; intro gb472 hg w53 hbox hb; have BK472 := Aside0.mk (hbox); have GW472 : Aside0 (w.heap.size ≤ gb472) := bs_ hg zB_; have GE472 := GW472; replace HB := Aside0.mk (below_step zB_ hb); clear hb hbox hg) | (refine bxg_ 3 #[.int .i64 a1_0, .int .i64 a1_1, .int .i64 a1_2] 37 ?_; intro gb473 hg w54 hbox hb; have BK473 := Aside0.mk (hbox); have GW473 : Aside0 (w.heap.size ≤ gb473) := bs_ hg z15_5_; have GE473 := GW473; replace HB := Aside0.mk (below_step z15_5_ hb); have NB472_473 := nl_ BK472 z15_0_ hg; have NB473_472 := ns_ NB472_473; replace BK472 := bb_ BK472 z15_0_ hb; clear hb hbox hg) | (refine bxg_ 4 #[.slice none 0 0] 28 ?_; intro gb474 hg w55 hbox hb; have BK474 := Aside0.mk (hbox); have GW474 : Aside0 (w.heap.size ≤ gb474) := bs_ hg z15_3_; have GE474 := GW474; replace HB := Aside0.mk (below_step z15_3_ hb); have NB472_474 := nl_ BK472 z15_0_ hg; have NB474_472 := ns_ NB472_474; replace BK472 := bb_ BK472 z15_0_ hb; have NB473_474 := nl_ BK473 z15_2_ hg; have NB474_473 := ns_ NB473_474; replace BK473 := bb_ BK473 z15_2_ hb; clear hb hbox hg; have hnb56 := NB472_473.out; have hnc56 := NB473_472.out; have hnb57 := NB472_474.out; have hnc57 := NB474_472.out; have hcz58_0 : w55.cell? ⟨gb472, 0, none⟩ = some (.slice A0_0 l0_0.length c0_0) := (blk_cell BK472.out 0).trans rfl; have hfz58_0 := blk_frozen BK472.out 0) | ((with_reducible refine gc_ 14 rfl ?_); refine gL_ 7 Tryz.func14 #[.agg #[.slice A0_0 l0_0.length c0_0]] ?_; (with_reducible refine (impl_IsPuzzle.calls k _ _ l0_0 false _ ?side1 ?side2 A3.out).mono ?_); (case side1 => exact zc15_5_); (case side2 => exact HC0_0.out); rintro e w59 ⟨rfl, hb⟩; refine ⟨_, rfl, ?_⟩; replace BK472 := bb_ BK472 z15_0_ hb; replace BK473 := bb_ BK473 z15_2_ hb; replace BK474 := bb_ BK474 z15_6_ hb; replace HB := Aside0.mk (below_step z15_1_ hb); have hnb60 := NB474_473.out; have hnc60 := NB473_474.out; have hcz61_0 : w59.cell? ⟨gb474, 0, none⟩ = some (.slice none 0 0) := (blk_cell BK474.out 0).trans rfl; have hfz61_0 := blk_frozen BK474.out 0))
 refine bodyPost_ret (results_ct rfl _ _ gb474 28 #[.slice none 0 0] (0, 0) _ rfl z15_8_ Tryz.underlying28 rfl (by kernel_rfl)) rfl ?_
 exact ⟨_, by first | rfl | (simp [errW_none, errW_some] <;> rfl) | (simp [*, errW_none, errW_some] <;> rfl), by first | exact Kd.R_nil _ _ _ _ _ | exact Kd.N_nil _ _ _ _ _ | exact Kd.V_nil _ _ _ _ _ | exact Kd.Q_nil _ _ _ _ _ | exact Kd.S_nil _ _ _ _ _, by repeat (first | (with_reducible first | exact HB.out | apply below_alloc | apply pw_below_drewN | apply below_drew1 | refine below_set ?_ GE472.out | refine below_set ?_ GE473.out | refine below_set ?_ GE474.out) | exact HB.out)⟩

end Go.Proofs.YtebchgfjfobbbaaGreatDoor.PFnTicketsHidden

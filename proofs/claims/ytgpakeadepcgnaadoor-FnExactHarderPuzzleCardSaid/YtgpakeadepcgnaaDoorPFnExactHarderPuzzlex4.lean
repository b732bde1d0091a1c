-- Laid by this session's program gprint.py over the kit's print.
import Derived.Test.YtgpakeadepcgnaaDoorPFnExactHarderPuzzlex0
import Derived.Test.YtgpakeadepcgnaaDoorPFnExactHarderPuzzlex2
import Derived.Test.YtgpakeadepcgnaaDoorPFnExactHarderPuzzlex3
namespace Go.Proofs.YtgpakeadepcgnaaDoor.PFnExactHarderPuzzle
open Go.RowKit Go.Proofs.YtgpakeadepcgnaaDoorW.PrintWords Go.Proofs.YtgpakeadepcgnaaDoorW.PrintLast Go.Proofs.YtgpakeadepcgnaaDoorW.PrintMore
attribute [local go_sem] max2_int min2_int max_two min_two max_three min_three max_four min_four   -- for this text's walks alone
set_option linter.unusedVariables false
set_option linter.unusedSimpArgs false
theorem z4_0_ {p : Prop} (h : p := by repeat (first | (with_reducible first | exact HB.out | apply below_alloc | apply pw_below_drewN | apply below_drew1 | refine below_set ?_ GE185.out | refine below_set ?_ GE186.out) | exact HB.out)) : p := h
theorem z4_1_ {p : Prop} (h : p := by repeat (first | (with_reducible first | exact HB.out | apply below_alloc | apply pw_below_drewN | apply below_drew1) | exact HB.out)) : p := h
theorem z4_2_ {p : Prop} (h : p := by (with_reducible repeat (first | refine blk_drewN ?_ _ | refine blk_drew ?_ | refine blk_alloc ?_ _)); exact BK185.out) : p := h
theorem z4_3_ {p : Prop} (h : p := by (with_reducible repeat (first | refine blk_drewN ?_ _ | refine blk_drew ?_ | refine blk_alloc ?_ _)); exact BK186.out) : p := h
theorem z4_4_ {p : Prop} (h : p := by (try simp only [List.map_toArray, List.map_cons, List.map_nil]); first | done | rfl | (simp only [List.length_drop, List.length_take]; rfl)) : p := h
theorem z4_5_ {p : Prop} (h : p := by (with_reducible repeat (first | apply Kd.R_alloc | apply Kd.R_drewN | apply Kd.R_drew)); exact HO_4.out) : p := h
theorem z4_6_ {p : Prop} (h : p := by (with_reducible repeat (first | refine blk_drewN ?_ _ | refine blk_drew ?_ | refine blk_alloc ?_ _)); refine blk_put (cs := #[.slice none 0 0]) ?_ 0 _ rfl; (with_reducible repeat (first | refine blk_drewN ?_ _ | refine blk_drew ?_ | refine blk_alloc ?_ _)); exact BK186.out) : p := h
theorem z4_7_ {p : Prop} (h : p := by repeat (first | (with_reducible first | exact HB.out | apply below_alloc | apply pw_below_drewN | apply below_drew1 | refine below_set ?_ GE185.out) | exact HB.out)) : p := h

/-! ### spec_pzAll: function 59 -/
def spec_pzLook.bad (k : Nat) (b : ByteArray) (x : S26) : Option Bool := (spec_pzFits.f k x.f0 x.f1 x.f2 b).map (!·)
def spec_pzLook.leaf (k : Nat) (l : List S26) (b : ByteArray) (out : List ByteArray) : Option (List ByteArray) := if out.length < 4096 then (Fn.anyO (spec_pzLook.bad k b) l).bind fun t => some (if t then out else out ++ [b]) else none
def spec_pzLook.dig (F : ByteArray → List ByteArray → Option (List ByteArray)) (k : Nat) (b : ByteArray) : Nat → Int → List ByteArray → Option (List ByteArray)
 | 0, _, out => some out
 | c + 1, n, out => (spec_l1Num.f k n).bind fun s => if b.size + s.size ≤ 4 then (if s.size = 1 then (F (b ++ s) out).bind fun o => spec_pzLook.dig F k b c (n + 1) o else none) else none
def spec_pzLook.f (k : Nat) (l : List S26) : Nat → ByteArray → List ByteArray → Option (List ByteArray)
 | 0, b, out => spec_pzLook.leaf k l b out
 | d + 1, b, out => spec_pzLook.dig (spec_pzLook.f k l d) k b 6 0 out
def spec_pzAll.f (k : Nat) (l0 : List S26) : Option (List ByteArray) := spec_pzLook.f k l0 4 ByteArray.empty []
theorem spec_pzLook.dig_mono {F G : ByteArray → List ByteArray → Option (List ByteArray)} (hF : ∀ b o, LeO (F b o) (G b o)) (k : Nat) (b : ByteArray) : ∀ c n out, LeO (spec_pzLook.dig F k b c n out) (spec_pzLook.dig G (k + 1) b c n out)
 | 0, _, _ => LeO.refl _
 | c + 1, n, out => by
  unfold spec_pzLook.dig
  refine LeO.bind (spec_l1Num.mono _ _) (fun s => LeO.ite (LeO.ite (LeO.bind (hF _ _) (fun o => spec_pzLook.dig_mono hF k b c _ _)) (LeO.refl _)) (LeO.refl _))
theorem spec_pzLook.mono (k : Nat) (l : List S26) : ∀ d b out, LeO (spec_pzLook.f k l d b out) (spec_pzLook.f (k + 1) l d b out)
 | 0, b, out => by
  unfold spec_pzLook.f spec_pzLook.leaf
  refine LeO.ite (LeO.bind (fun r hr => Fn.anyO_le (fun x r hr => ?_) l r hr) (fun _ => LeO.refl _)) (LeO.refl _)
  unfold spec_pzLook.bad at hr ⊢
  obtain ⟨t, ht, h⟩ := Option.map_eq_some_iff.mp hr
  exact Option.map_eq_some_iff.mpr ⟨t, spec_pzFits.mono _ _ _ _ _ t ht, h⟩
 | d + 1, b, out => spec_pzLook.dig_mono (fun b o => spec_pzLook.mono k l d b o) k b _ _ _
theorem spec_pzAll.mono : ∀ a0 k, LeO (spec_pzAll.f k a0) (spec_pzAll.f (k + 1) a0) := fun a0 k => spec_pzLook.mono k a0 _ _ _
theorem spec_pzLook.succ_ (n : Nat) (h : n < 4611686018427387904) : wrap64 ((n : Int) + 1) = ((n + 1 : Nat) : Int) := by simp [wrap64]; omega
theorem spec_pzLook.succv_ (n : Nat) (h : n < 4611686018427387904) : Value.int .i64 (wrap64 ((n : Int) + 1)) = Value.int .i64 ((n + 1 : Nat) : Int) := by rw [spec_pzLook.succ_ n h]
set_option maxHeartbeats 8000000 in
set_option maxRecDepth 100000 in
theorem spec_pzLook.calls (k : Nat) (A0 : Option Addr) (c0 : Nat) (l0 : List (S26)) (w0 : World) (g : Nat) (hr0 : Kd.C k26 w0 A0 l0.length l0) (hc0 : l0.length ≤ c0) (hg : w0.heap.size ≤ g) : ∀ (d : Nat) (b : ByteArray) (v : Value) (out r : List ByteArray) (w : World) (_ : b.size + d = 4) (_ : Below w0.heap.size w0 w) (_ : w.heap[g]? = some (.cells #[v] 53 (0, 0))) (_ : Kd.R Kd.string 9 w w0.heap.size (fun k => k ≠ g) v out) (_ : spec_pzLook.f k l0 d b out = some r),
 Calls Tryd.prog 86 #[.slice A0 l0.length c0, .string b, .pointer (some ⟨g, 0, none⟩)] w fun e w' => e = .returned (.tuple #[]) ∧ ∃ v', w'.heap[g]? = some (.cells #[v'] 53 (0, 0)) ∧ Kd.R Kd.string 9 w' w0.heap.size (fun k => k ≠ g) v' r ∧ Below w0.heap.size w0 w' := by
 have HR0 := Aside0.mk hr0
 have HC0 := Aside0.mk hc0
 have HG := Aside0.mk hg
 have hu26 := Tryd.underlying26
 clear hr0 hc0 hg
 intro d
 induction d with
 | zero =>
  intro b v out r w hd hb hk ho h
  have HB := Aside0.mk hb
  have BK := Aside0.mk hk
  have HO := Aside0.mk ho
  have c1 : decide ((b.size : Int) < 4) = false := decide_eq_false (by omega)
  have c2 : decide (b.size < 4) = false := decide_eq_false (by omega)
  unfold spec_pzLook.f spec_pzLook.leaf at h
  by_cases hl : out.length < 4096
  rotate_left
  · exact none_ (if_neg hl) h
  rw [if_pos hl] at h
  obtain ⟨t, ht, h⟩ := Option.bind_eq_some_iff.mp h
  obtain rfl := Option.some.inj h
  have HL := Aside0.mk hl
  have HA := Aside0.mk (show Fn.anyO (spec_pzLook.bad k b) (l0.drop 0) = some t from ht)
  clear hd hb hk ho h hl ht
  go_enter Tryd.func86, Tryd.ntmps86
  go_wp2
  go_loopg [25] (l0.length + 1) (fun kq v25 w' => ∃ j : Nat, v25 = .int .i64 (j : Int) ∧ Aside0 (j + kq = l0.length + 1) ∧ Aside0 (Fn.anyO (spec_pzLook.bad k b) (l0.drop j) = some t) ∧ Aside0 (w'.heap[g]? = some (.cells #[v] 53 (0, 0))) ∧ Aside0 (Kd.R Kd.string 9 w' w0.heap.size (fun k => k ≠ g) v out) ∧ Aside0 (Below w0.heap.size w0 w'))
  case atStart => exact ⟨0, rfl, ⟨by omega⟩, HA, BK, HO, HB⟩
  case round =>
   clear HA BK HO HB
   obtain ⟨j, rfl, HJ, HA, BK, HO, HB⟩ := hrel
   by_cases c : j < l0.length
   · obtain ⟨e, he, hbb⟩ := Fn.anyO_drop (spec_pzLook.bad k b) l0 z26 j c t HA.out
     obtain ⟨f, hf, hfe⟩ := Option.map_eq_some_iff.mp (show (spec_pzFits.f k (rd_T26 l0 (j : Int)).f0 (rd_T26 l0 (j : Int)).f1 (rd_T26 l0 (j : Int)).f2 b).map (!·) = some e from he)
     have HF := Aside0.mk hf
     have HBB := Aside0.mk hbb
     clear he hf hbb HA
     obtain ⟨ad1, e1, hx0, hx1, hx2⟩ := at_T26 HR0.out (j : Int) (by omega) (by omega)
     cases e1
     simp only [Int.toNat_natCast] at hx0 hx1 hx2
     replace hx0 := (HB.out.cell (World.block_lt_of_cell? w0 _ hx0)).trans hx0
     replace hx1 := (HB.out.cell (World.block_lt_of_cell? w0 _ hx1)).trans hx1
     replace hx2 := (HB.out.cell (World.block_lt_of_cell? w0 _ hx2)).trans hx2
     have p1 : (0 ≤ (j : Int)) = True := eq_true (by omega)
     have q1 : ((j : Int) < (l0.length : Int)) = True := eq_true (by omega)
     have d1 : decide ((j : Int) < (l0.length : Int)) = true := decide_eq_true (by omega)
     have d2 : decide (j < l0.length) = true := decide_eq_true c
     have hl0 := (HR0.out).2.1
     cases f with
     | false =>
      subst hfe
      have ht : t = true := by
       rcases HBB.out with ⟨_, e⟩ | ⟨e, _⟩
       · exact e
       cases e
      subst ht
      go_wp2_with (first | ((with_reducible refine gate_dst (N := 8) rfl ?_); refine box_event ?hg (N := 8) ?hd (cs := #[.int .i64 0, .int .i64 0, .int .i64 0]) (t := 26) ?hr ?_; (case hd => rfl); (case hg => rfl); (case hr => first | (go_simp; done) | (go_simp; rfl)); intro gb hg w12 hbox hb; have hcz0 : w12.cell? ⟨gb, 0, none⟩ = some (.int .i64 0) := (blk_cell hbox 0).trans rfl; have hcz1 : w12.cell? ⟨gb, 1, none⟩ = some (.int .i64 0) := (blk_cell hbox 1).trans rfl; have hcz2 : w12.cell? ⟨gb, 2, none⟩ = some (.int .i64 0) := (blk_cell hbox 2).trans rfl; have hfz0 := blk_frozen hbox 0; have hfz1 := blk_frozen hbox 1; have hfz2 := blk_frozen hbox 2; have HGB := Aside0.mk (show wr.heap.size ≤ gb by rw [hg]; exact Nat.le_refl _); have HBX := Aside0.mk hb; clear hb hbox hg) | (go_at_call 53; (with_reducible refine (spec_pzFits.calls k _ _ _ b false _ HF.out).mono ?_); rintro e w15 ⟨rfl, hb⟩; have HBY := Aside0.mk (below_step (below_set (below_set (below_set HBX.out HGB.out) HGB.out) HGB.out) hb); clear hb))
      (first | go_end0 | ((try simp only [Exit.inBlock, Exit.then]); refine bodyPost_ret (results_none rfl _ _ _) rfl ?_))
      exact ⟨rfl, v, blk_below BK.out HBY.out, Kd.R_below HO.out HBY.out, below_step HB.out HBY.out⟩
     | true =>
      subst hfe
      have ht := HBB.out
      go_wp2_with (first | ((with_reducible refine gate_dst (N := 8) rfl ?_); refine box_event ?hg (N := 8) ?hd (cs := #[.int .i64 0, .int .i64 0, .int .i64 0]) (t := 26) ?hr ?_; (case hd => rfl); (case hg => rfl); (case hr => first | (go_simp; done) | (go_simp; rfl)); intro gb hg w12 hbox hb; have hcz0 : w12.cell? ⟨gb, 0, none⟩ = some (.int .i64 0) := (blk_cell hbox 0).trans rfl; have hcz1 : w12.cell? ⟨gb, 1, none⟩ = some (.int .i64 0) := (blk_cell hbox 1).trans rfl; have hcz2 : w12.cell? ⟨gb, 2, none⟩ = some (.int .i64 0) := (blk_cell hbox 2).trans rfl; have hfz0 := blk_frozen hbox 0; have hfz1 := blk_frozen hbox 1; have hfz2 := blk_frozen hbox 2; have HGB := Aside0.mk (show wr.heap.size ≤ gb by rw [hg]; exact Nat.le_refl _); have HBX := Aside0.mk hb; clear hb hbox hg) | (go_at_call 53; (with_reducible refine (spec_pzFits.calls k _ _ _ b true _ HF.out).mono ?_); rintro e w15 ⟨rfl, hb⟩; have HBY := Aside0.mk (below_step (below_set (below_set (below_set HBX.out HGB.out) HGB.out) HGB.out) hb); clear hb))
      go_roundg (gk - 1)
      case measure => have := HJ.out; omega
      case rel =>
       have hnx : Fn.anyO (spec_pzLook.bad k b) (l0.drop (j + 1)) = some t := by
        rcases HBB.out with ⟨e, _⟩ | ⟨_, h⟩
        · cases e
        exact h
       exact ⟨j + 1, by go_num, ⟨by have := HJ.out; omega⟩, ⟨hnx⟩, ⟨blk_below BK.out HBY.out⟩, ⟨Kd.R_below HO.out HBY.out⟩, ⟨below_step HB.out HBY.out⟩⟩
   have d1 : decide ((j : Int) < (l0.length : Int)) = false := decide_eq_false (by omega)
   have d2 : decide (j < l0.length) = false := decide_eq_false c
   have ht : t = false := by
    have h := HA.out
    rw [List.drop_eq_nil_of_le (by omega)] at h
    exact (Option.some.inj h).symm
   subst ht
   have hcell := blk_cell BK.out 0
   have hfz := blk_frozen BK.out 0
   go_wp2_with (first | ((with_reducible refine gate_builtin (b := .append) (xs := #[.tmp 37, .tmp 39]) rfl ?_); at_builtin; refine Kd.R_append Kd.string (w0 := w0) w0.heap.size rfl (.tmp 37) (.tmp 39) 53 9 (.string ByteArray.empty) 16 rfl Tryd.underlying53 info9 rfl (by decide) (by omega) v out b [.string b] (fun k => k ≠ g) (fun _ => False) rfl rfl ?aP (fun _ hk => hk.elim) ?aF ?aO ?aB ?aS ?aL ?_; (case aP => exact rfl); (case aF => exact fun k hk he => by have := blk_lt BK.out; omega); (case aO => exact HO.out); (case aB => exact HB.out); (case aS => exact HB.out.size); (case aL => have := HL.out; omega); intro v1 w4 ho hb hg hat; obtain ⟨Av, cv, rfl⟩ := Kd.R_slice ho; have e_ : (out ++ [b]).length = out.length + 1 := (by simp); rw [e_] at ho ⊢; clear e_; have HO3 := Aside0.mk ho; have HB3 := Aside0.mk hb; have BK3 := Aside0.mk (blk_grown BK.out hg (fun he => HO.out.1 _ he.symm rfl)); have hcell3 := blk_cell BK3.out 0; have hfz3 := blk_frozen BK3.out 0; clear ho hb hg hat))
   (first | go_end0 | ((try simp only [Exit.inBlock, Exit.then]); refine bodyPost_ret (results_none rfl _ _ _) rfl ?_))
   exact ⟨rfl, _, blk_put BK3.out 0 _ rfl, Kd.R_far HO3.out (fun k hk => hk) _, below_set HB3.out HG.out⟩
 | succ d ih =>
  intro b v out r w hd hb hk ho h
  have HB := Aside0.mk hb
  have BK := Aside0.mk hk
  have HO := Aside0.mk ho
  have IH := Aside0.mk ih
  have H := Aside0.mk (show spec_pzLook.dig (spec_pzLook.f k l0 d) k b (6 - 0) ((0 : Nat) : Int) out = some r from h)
  have c1 : decide ((b.size : Int) < 4) = true := decide_eq_true (by omega)
  have c2 : decide (b.size < 4) = true := decide_eq_true (by omega)
  have HD := Aside0.mk hd
  clear hb hk ho h ih hd
  go_enter Tryd.func86, Tryd.ntmps86
  go_wp2
  go_loopg [6] 7 (fun kq v6 w' => ∃ (i : Nat) (o : List ByteArray) (v : Value), v6 = .int .i64 (i : Int) ∧ Aside0 (i + kq = 7) ∧ Aside0 (spec_pzLook.dig (spec_pzLook.f k l0 d) k b (6 - i) (i : Int) o = some r) ∧ Aside0 (w'.heap[g]? = some (.cells #[v] 53 (0, 0))) ∧ Aside0 (Kd.R Kd.string 9 w' w0.heap.size (fun k => k ≠ g) v o) ∧ Aside0 (Below w0.heap.size w0 w'))
  case atStart => exact ⟨0, out, v, rfl, ⟨by omega⟩, H, BK, HO, HB⟩
  case round =>
   clear H BK HO HB
   obtain ⟨i, o, v, rfl, HI, HA, BK, HO, HB⟩ := hrel
   by_cases c : i < 6
   · have d1 : decide ((i : Int) ≤ 5) = true := decide_eq_true (by omega)
     have d2 : decide (i ≤ 5) = true := decide_eq_true (by omega)
     have h := HA.out
     rw [show 6 - i = (6 - (i + 1)) + 1 by omega] at h
     unfold spec_pzLook.dig at h
     obtain ⟨s, hs, h⟩ := Option.bind_eq_some_iff.mp h
     by_cases hz : b.size + s.size ≤ 4
     rotate_left
     · exact none_ (if_neg hz) h
     rw [if_pos hz] at h
     by_cases hz1 : s.size = 1
     rotate_left
     · exact none_ (if_neg hz1) h
     rw [if_pos hz1] at h
     obtain ⟨o2, ho2, h⟩ := Option.bind_eq_some_iff.mp h
     have HS := Aside0.mk hs
     have HF := Aside0.mk ho2
     have HA2 := Aside0.mk (show spec_pzLook.dig (spec_pzLook.f k l0 d) k b (6 - (i + 1)) ((i + 1 : Nat) : Int) o2 = some r from h)
     have HZ := Aside0.mk (show (b ++ s).size + d = 4 by have := HD.out; rw [ByteArray.size_append]; omega)
     have hsz : b.size + s.size ≤ 9223372036854775807 := by omega
     have z0 := eq_true hsz
     have z1 : decide (b.size + s.size ≤ 9223372036854775807) = true := decide_eq_true hsz
     have z2 : (9223372036854775807 < b.size + s.size) = False := eq_false (Nat.not_lt.2 hsz)
     have HC := Aside0.mk c
     clear HA h hs hz hz1 ho2 hsz c
     go_wp2_with (first | (go_at_call 112; (with_reducible refine (spec_l1Num.calls k (i : Int) s _ HS.out).mono ?_); rintro e w15 ⟨rfl, hb⟩; have HB2 := Aside0.mk (below_step HB.out hb); have BK2 := Aside0.mk (blk_below BK.out hb); have HO2 := Aside0.mk (Kd.R_below HO.out hb); clear hb) | (go_at_call 86; (with_reducible refine (IH.out (b ++ s) v o o2 _ HZ.out HB2.out BK2.out HO2.out HF.out).mono ?_); rintro e w16 ⟨rfl, v2, hk, ho, hb⟩; have HB3 := Aside0.mk hb; have BK3 := Aside0.mk hk; have HO3 := Aside0.mk ho; clear hb hk ho))
     go_roundg (gk - 1)
     case measure => have := HI.out; have := HC.out; omega
     case rel => exact ⟨i + 1, o2, v2, spec_pzLook.succv_ i (by have := HC.out; omega), ⟨by have := HI.out; have := HC.out; omega⟩, HA2, BK3, HO3, HB3⟩
   have d1 : decide ((i : Int) ≤ 5) = false := decide_eq_false (by omega)
   have d2 : decide (i ≤ 5) = false := decide_eq_false (by omega)
   have hr : o = r := by
    have h := HA.out
    rw [show 6 - i = 0 by omega] at h
    exact Option.some.inj h
   subst hr
   go_wp2
   (first | go_end0 | ((try simp only [Exit.inBlock, Exit.then]); refine bodyPost_ret (results_none rfl _ _ _) rfl ?_))
   exact ⟨rfl, v, BK.out, HO.out, HB.out⟩
set_option maxHeartbeats 8000000 in
set_option maxRecDepth 100000 in
theorem spec_pzAll.calls (k : Nat) (A0 : Option Addr) (c0 : Nat) (l0 : List (S26)) (r : List ByteArray) (w : World) (hr0 : Kd.C k26 w A0 l0.length l0) (hc0 : l0.length ≤ c0) (h : spec_pzAll.f k l0 = some r) :
 Calls Tryd.prog 59 #[.slice A0 l0.length c0] w fun e w' => ∃ v0_ : Value, e = .returned (v0_) ∧ Kd.R Kd.string 9 w' w.heap.size (fun _ => True) v0_ r ∧ Below w.heap.size w w' := by
 have HR0 := Aside0.mk hr0
 have HC0 := Aside0.mk hc0
 have H := Aside0.mk (show spec_pzLook.f k l0 4 ⟨#[]⟩ [] = some r from h)
 clear hr0 hc0 h
 go_enter Tryd.func59, Tryd.ntmps59
 go_wp2_with (first | ((with_reducible refine gate_dst (N := 3) rfl ?_); refine box_event ?hg (N := 3) ?hd (cs := #[.slice none 0 0]) (t := 53) ?hr ?_; (case hd => rfl); (case hg => rfl); (case hr => first | (go_simp; done) | (go_simp; rfl)); intro gb hg w12 hbox hb; have HGB := Aside0.mk (show w.heap.size ≤ gb by rw [hg]; exact Nat.le_refl _); have BK := Aside0.mk hbox; have HB := Aside0.mk hb; clear hb hbox hg) | (go_at_call 86; (with_reducible refine (spec_pzLook.calls k A0 c0 l0 w gb HR0.out HC0.out HGB.out 4 ⟨#[]⟩ (.slice none 0 0) [] r _ rfl HB.out BK.out (Kd.R_nil _ _ _ _ _) H.out).mono ?_); rintro e w16 ⟨rfl, v2, hk, ho, hb⟩; have HB3 := Aside0.mk hb; have hcell := blk_cell hk 0; have HO3 := Aside0.mk ho; clear hb hk ho))
 go_ret
 exact ⟨_, rfl, Kd.R_mono HO3.out (fun _ _ => trivial), HB3.out⟩

/-! ### spec_pzSolved: function 62 -/
def spec_pzSolved.f (k : Nat) (l0 : List (S26)) : Option (Bool) := (spec_pzAll.f k l0).bind fun t165 => (some ((t165.length : Int) == 1))
theorem spec_pzSolved.mono : ∀ a0 k, LeO (spec_pzSolved.f k a0) (spec_pzSolved.f (k + 1) a0) := by
 intro a0 k
 unfold spec_pzSolved.f
 repeat' first
  | (with_reducible exact spec_pzAll.mono _ _)
  | (with_reducible exact LeO.refl _)
  | (with_reducible exact LeO.none _)
  | (with_reducible refine LeO.ite ?_ ?_)
  | (with_reducible refine LeO.bind ?_ (fun _ => ?_))
  | exact spec_pzAll.mono _ _
  | exact LeO.none _
  | refine LeO.ite ?_ ?_
  | refine LeO.bind ?_ (fun _ => ?_)
set_option maxHeartbeats 8000000 in
set_option maxRecDepth 100000 in
theorem spec_pzSolved.calls (k : Nat) (A0 : Option Addr) (c0 : Nat) (l0 : List (S26)) (r : Bool) (w : World) (hr0 : Kd.C k26 w A0 l0.length l0) (hc0 : l0.length ≤ c0) (h : spec_pzSolved.f k l0 = some r) :
 Calls Tryd.prog 62 #[.slice A0 l0.length c0] w fun e w' => e = .returned (.bool r) ∧ Below w.heap.size w w' := by
 have HR0 := Aside0.mk hr0
 have HC0 := Aside0.mk hc0
 clear hr0 hc0
 have HB := Aside0.mk (Below.refl w.heap.size w)
 have H : ((spec_pzAll.f k l0).bind fun t165 => (some ((t165.length : Int) == 1))) = some r := h
 clear h
 replace H := Option.bind_eq_some_iff.mp H
 obtain ⟨t165, A20, H⟩ := H
 have A2 := Aside0.mk A20
 clear A20
 obtain rfl := Option.some.inj H
 go_enter Tryd.func62, Tryd.ntmps62
 go_wp2_with (first | ((with_reducible refine gate_callee (f := 59) rfl ?_); refine goesL_ (some 4) rfl rfl Tryd.func59 (by kernel_rfl) rfl #[.slice A0 l0.length c0] rfl z4_4_ ?_; (with_reducible refine (spec_pzAll.calls k _ _ l0 t165 _ ?side1 ?side2 A2.out).mono ?_); (case side1 => repeat (first | exact HR0.out | (with_reducible refine Kd.C_alloc ?_ _) | (with_reducible refine Kd.C_drewN ?_ _) | (with_reducible refine Kd.C_drew ?_))); (case side2 => exact HC0.out); rintro e w3 ⟨v166, rfl, ho0, hb⟩; refine ⟨_, rfl, ?_⟩; have n0_ := Aside0.mk (Kd.R_lower ho0 (below_size z4_1_)); have n1_ := Aside0.mk (below_step z4_1_ hb); clear HB; have HO167 := n0_; have HB := n1_; clear n0_ n1_; (try clear hb); (try clear hb2); (try clear hk); (try clear hi); (try clear ho0); obtain ⟨Ao4, co4, eo4⟩ := Kd.R_slice HO167.out; subst eo4))
 go_ret
 exact ⟨by first | rfl | (simp [errW_none, errW_some] <;> rfl) | (simp [*, errW_none, errW_some] <;> rfl), by repeat (first | (with_reducible first | exact HB.out | apply below_alloc | apply pw_below_drewN | apply below_drew1) | exact HB.out)⟩

/-! ### spec_pzWithout: function 74 -/
def spec_pzWithout.f (l0 : List (S26)) (a1 : Int) : Option ((List (S26))) := (some (([] : List (S26)) : List (S26))).bind fun y168 => (if 0 ≤ a1 then (if a1 ≤ (l0.length : Int) then ((some (l0.take (a1 : Int).toNat : List (S26))).bind fun y171 => (if y168.length + y171.length < 5864062014805 then ((some (y168 ++ y171 : List (S26))).bind fun y175 => (if 0 ≤ (wrap64 (a1 + 1)) then (if (wrap64 (a1 + 1)) ≤ (l0.length : Int) then ((some (l0.drop ((wrap64 (a1 + 1)) : Int).toNat : List (S26))).bind fun y178 => (if y175.length + y178.length < 5864062014805 then (some (y175 ++ y178)) else (none))) else (none)) else (none))) else (none))) else (none)) else (none))
def spec_pzWithout.T1 : Bool × List (List Nat × List Nat) := (true, [([], []), ([], []), ([], []), ([1, 2], [1, 2]), ([0, 3], [0, 3]), ([], []), ([], []), ([6], [6]), ([5, 7], [5, 7]), ([4, 8, 4], [4, 8]), ([9, 9, 0, 1, 2, 3, 4, 5, 6, 7, 8, 9], [9])])
def spec_pzWithout.B1 : List Nat := [0, 0, 0, 6, 15, 0, 0, 64, 224, 511, 1023]
theorem spec_pzWithout.tab1 : rtab .any (opsOf Tryd.f74 1) = spec_pzWithout.T1 := by kernel_rfl
theorem spec_pzWithout.bits1 : waitsOk spec_pzWithout.T1.2 spec_pzWithout.B1 = true := by kernel_rfl
set_option maxHeartbeats 8000000 in
set_option maxRecDepth 100000 in
theorem spec_pzWithout.calls (A0 : Option Addr) (c0 : Nat) (l0 : List (S26)) (a1 : Int) (r : List (S26)) (w : World) (hr0 : Kd.C k26 w A0 l0.length l0) (hc0 : l0.length ≤ c0) (h : spec_pzWithout.f l0 a1 = some r) :
 Calls Tryd.prog 74 #[.slice A0 l0.length c0, .int .i64 a1] w fun e w' => ∃ v0_ : Value, e = .returned (v0_) ∧ Kd.R k26 26 w' w.heap.size (fun _ => True) v0_ r ∧ Below w.heap.size w w' := by
 have HR0 := Aside0.mk hr0
 have HC0 := Aside0.mk hc0
 clear hr0 hc0
 have HB := Aside0.mk (Below.refl w.heap.size w)
 have H : ((some (([] : List (S26)) : List (S26))).bind fun y168 => (if 0 ≤ a1 then (if a1 ≤ (l0.length : Int) then ((some (l0.take (a1 : Int).toNat : List (S26))).bind fun y171 => (if y168.length + y171.length < 5864062014805 then ((some (y168 ++ y171 : List (S26))).bind fun y175 => (if 0 ≤ (wrap64 (a1 + 1)) then (if (wrap64 (a1 + 1)) ≤ (l0.length : Int) then ((some (l0.drop ((wrap64 (a1 + 1)) : Int).toNat : List (S26))).bind fun y178 => (if y175.length + y178.length < 5864062014805 then (some (y175 ++ y178)) else (none))) else (none)) else (none))) else (none))) else (none)) else (none))) = some r := h
 clear h
 obtain ⟨y168, hy168⟩ : ∃ y_ : List (S26), y_ = (([] : List (S26))) := ⟨_, rfl⟩
 replace H : (if 0 ≤ a1 then (if a1 ≤ (l0.length : Int) then ((some (l0.take (a1 : Int).toNat : List (S26))).bind fun y171 => (if y168.length + y171.length < 5864062014805 then ((some (y168 ++ y171 : List (S26))).bind fun y175 => (if 0 ≤ (wrap64 (a1 + 1)) then (if (wrap64 (a1 + 1)) ≤ (l0.length : Int) then ((some (l0.drop ((wrap64 (a1 + 1)) : Int).toNat : List (S26))).bind fun y178 => (if y175.length + y178.length < 5864062014805 then (some (y175 ++ y178)) else (none))) else (none)) else (none))) else (none))) else (none)) else (none)) = some r := by first | (rw [hy168]; with_reducible exact H) | (have H2_ := (Option.bind_some _ _).symm.trans H; rw [hy168]; with_reducible exact H2_) | (have H2_ := (Option.bind_some _ _).symm.trans H; with_reducible exact H2_) | with_reducible exact H | (rw [hy168]; exact H) | exact H
 have Ny168 := Aside0.mk hy168
 clear hy168
 by_cases c3 : 0 ≤ a1
 rotate_left
 · exact none_ (if_neg c3) H
 rw [if_pos c3] at H
 have c3b0 := eq_true c3
 have c3b1 : decide (0 ≤ a1) = true := decide_eq_true c3
 clear c3
 by_cases c4 : a1 ≤ (l0.length : Int)
 rotate_left
 · exact none_ (if_neg c4) H
 rw [if_pos c4] at H
 have c4b0 := eq_true c4
 have c4b1 : decide (a1 ≤ (l0.length : Int)) = true := decide_eq_true c4
 clear c4
 obtain ⟨y171, hy171⟩ : ∃ y_ : List (S26), y_ = (l0.take (a1 : Int).toNat) := ⟨_, rfl⟩
 replace H : (if y168.length + y171.length < 5864062014805 then ((some (y168 ++ y171 : List (S26))).bind fun y175 => (if 0 ≤ (wrap64 (a1 + 1)) then (if (wrap64 (a1 + 1)) ≤ (l0.length : Int) then ((some (l0.drop ((wrap64 (a1 + 1)) : Int).toNat : List (S26))).bind fun y178 => (if y175.length + y178.length < 5864062014805 then (some (y175 ++ y178)) else (none))) else (none)) else (none))) else (none)) = some r := by first | (rw [hy171]; with_reducible exact H) | (have H2_ := (Option.bind_some _ _).symm.trans H; rw [hy171]; with_reducible exact H2_) | (have H2_ := (Option.bind_some _ _).symm.trans H; with_reducible exact H2_) | with_reducible exact H | (rw [hy171]; exact H) | exact H
 have Ny171 := Aside0.mk hy171
 clear hy171
 by_cases c5 : y168.length + y171.length < 5864062014805
 rotate_left
 · exact none_ (if_neg c5) H
 rw [if_pos c5] at H
 have LMc5 := Aside0.mk c5
 clear c5
 obtain ⟨y175, hy175⟩ : ∃ y_ : List (S26), y_ = (y168 ++ y171) := ⟨_, rfl⟩
 replace H : (if 0 ≤ (wrap64 (a1 + 1)) then (if (wrap64 (a1 + 1)) ≤ (l0.length : Int) then ((some (l0.drop ((wrap64 (a1 + 1)) : Int).toNat : List (S26))).bind fun y178 => (if y175.length + y178.length < 5864062014805 then (some (y175 ++ y178)) else (none))) else (none)) else (none)) = some r := by first | (rw [hy175]; with_reducible exact H) | (have H2_ := (Option.bind_some _ _).symm.trans H; rw [hy175]; with_reducible exact H2_) | (have H2_ := (Option.bind_some _ _).symm.trans H; with_reducible exact H2_) | with_reducible exact H | (rw [hy175]; exact H) | exact H
 have Ny175 := Aside0.mk hy175
 clear hy175
 obtain ⟨ji6, hji6⟩ : ∃ j_ : Int, (wrap64 (a1 + 1)) = j_ := ⟨_, rfl⟩
 replace H : (if 0 ≤ (ji6) then (if (ji6) ≤ (l0.length : Int) then ((some (l0.drop ((ji6) : Int).toNat : List (S26))).bind fun y178 => (if y175.length + y178.length < 5864062014805 then (some (y175 ++ y178)) else (none))) else (none)) else (none)) = some r := by first | (rw [hji6] at H; exact H) | (simp only [hji6] at H ⊢; exact H)
 have hji6w : (IntKind.i64.wrap (a1 + 1)) = ji6 := (i64_w _).trans hji6
 by_cases c7 : 0 ≤ (ji6)
 rotate_left
 · exact none_ (if_neg c7) H
 rw [if_pos c7] at H
 have c7b0 := eq_true c7
 have c7b1 : decide (0 ≤ (ji6)) = true := decide_eq_true c7
 clear c7
 by_cases c8 : (ji6) ≤ (l0.length : Int)
 rotate_left
 · exact none_ (if_neg c8) H
 rw [if_pos c8] at H
 have c8b0 := eq_true c8
 have c8b1 : decide ((ji6) ≤ (l0.length : Int)) = true := decide_eq_true c8
 clear c8
 obtain ⟨y178, hy178⟩ : ∃ y_ : List (S26), y_ = (l0.drop ((ji6) : Int).toNat) := ⟨_, rfl⟩
 replace H : (if y175.length + y178.length < 5864062014805 then (some (y175 ++ y178)) else (none)) = some r := by first | (rw [hy178]; with_reducible exact H) | (have H2_ := (Option.bind_some _ _).symm.trans H; rw [hy178]; with_reducible exact H2_) | (have H2_ := (Option.bind_some _ _).symm.trans H; with_reducible exact H2_) | with_reducible exact H | (rw [hy178]; exact H) | exact H
 have Ny178 := Aside0.mk hy178
 clear hy178
 by_cases c9 : y175.length + y178.length < 5864062014805
 rotate_left
 · exact none_ (if_neg c9) H
 rw [if_pos c9] at H
 have LMc9 := Aside0.mk c9
 clear c9
 obtain ⟨y182, hy182⟩ : ∃ y_ : List (S26), y_ = (y175 ++ y178) := ⟨_, rfl⟩
 replace H : (some y182) = some r := by first | (rw [hy182]; with_reducible exact H) | (have H2_ := (Option.bind_some _ _).symm.trans H; rw [hy182]; with_reducible exact H2_) | (have H2_ := (Option.bind_some _ _).symm.trans H; with_reducible exact H2_) | with_reducible exact H | (rw [hy182]; exact H) | exact H
 have Ny182 := Aside0.mk hy182
 clear hy182
 obtain rfl := Option.some.inj H
 go_enter Tryd.func74, Tryd.ntmps74
 try go_wp2
 have n0_ := Aside0.mk (below_drew1 HB.out)
 clear HB
 have HB := n0_
 clear n0_
 have q11 : (a1 : Int) ≤ ((l0.length : Int) : Int) := of_decide_eq_true (by first | (with_reducible assumption) | assumption)
 obtain ⟨i011, hi011, _, hsz11, _⟩ := info_parts info26
 have hroom11 : l0.length ≤ c0 := HC0.out
 have hC11 : Kd.C k26 _ A0 l0.length l0 := HR0.out
 have hcut11 := cut_to (P := Tryd.prog) 35 26 .i64 Tryd.underlying35 hi011 A0 l0.length c0 a1 (of_decide_eq_true (by first | (with_reducible assumption) | assumption)) q11 hroom11
 have hr11 := Kd.C_take (m := (a1 : Int).toNat) hC11 (by omega)
 have hy11 : y171.length = (a1 : Int).toNat := (by rw [Ny171.out, List.length_take]; omega)
 rw [← Ny171.out] at hr11
 rw [← hy11] at hcut11
 have HR174 := Aside0.mk hr11
 have HC174 := Aside0.mk (show y171.length ≤ c0 from by omega)
 clear hr11 hC11 hroom11 hi011 hsz11
 have KY11 := Aside0.mk hy11
 clear hy11
 replace q11 := eq_true q11
 have q12 : ((ji6) : Int) ≤ ((l0.length : Int) : Int) := of_decide_eq_true (by first | (with_reducible assumption) | assumption)
 obtain ⟨i012, hi012, _, hsz12, _⟩ := info_parts info26
 have hroom12 : l0.length ≤ c0 := HC0.out
 have hC12 : Kd.C k26 _ A0 l0.length l0 := HR0.out
 have q012 : (0 : Int) ≤ ((ji6) : Int) := of_decide_eq_true (by first | (with_reducible assumption) | assumption)
 have hcut12 := cut_from (P := Tryd.prog) 35 26 .i64 Tryd.underlying35 hi012 3 hsz12 A0 l0.length c0 (ji6) q012 q12
 have hr12 := Kd.C_drop (m := ((ji6) : Int).toNat) (c := c0) hC12 (by omega) hroom12
 obtain ⟨A12, hA12⟩ : ∃ A1, A1 = (if c0 = ((ji6) : Int).toNat then A0 else (A0 : Option Addr).map (·.add (((ji6) : Int).toNat * 3))) := ⟨_, rfl⟩
 obtain ⟨c12, hc12⟩ : ∃ c1, c1 = c0 - ((ji6) : Int).toNat := ⟨_, rfl⟩
 have hy12 : y178.length = l0.length - ((ji6) : Int).toNat := (by rw [Ny178.out, List.length_drop] <;> omega)
 rw [show (l0).drop ((ji6) : Int).toNat = y178 from Ny178.out.symm] at hr12
 replace hr12 : Kd.C k26 _ A12 y178.length y178 := (by rw [hA12]; exact hr12)
 rw [← hy12, ← hA12, ← hc12] at hcut12
 have HR181 := Aside0.mk hr12
 have HC181 := Aside0.mk (show y178.length ≤ c12 from by rw [hy12, hc12]; exact Nat.sub_le_sub_right hroom12 _)
 clear hr12 hC12 hroom12 hi012 hsz12 hc12
 have KY12 := Aside0.mk hy12
 have KA12 := Aside0.mk hA12
 clear hy12 hA12
 replace q12 := eq_true q12
 refine start_ (n := 11) (S := fun w' => True) (ds := []) #[false, false, false, false, false, false, false, false, false, false, false] (by kernel_rfl) rfl rfl trivial (fun hHeld => ?_); refine with_tabW spec_pzWithout.tab1 spec_pzWithout.bits1 (fun HT_ HW_ => ?_)
 generalize w.drew = w10 at HB HR174 HR181 hHeld ⊢
 refine pure_ (i := 1) (N := some 6) (v := ?_) (a' := ?_) #[false, true, false, false, false, false, false, false, false, false, false] rfl rfl (any_of HT_.out (by kernel_rfl)) (fun _ _ _ h => h) (Or.inl ⟨by rfl, ?_⟩) ?_ ?_
 rotate_left
 · intro w'
   go_simp
   with_reducible rfl
 rotate_left
 · simp only [Act.put, List.setIfInBounds_toArray, List.set_cons_zero, List.set_cons_succ, i64_w, i32_w]
   rfl
 refine pure_ (i := 2) (N := some 7) (v := ?_) (a' := ?_) #[false, true, true, false, false, false, false, false, false, false, false] rfl rfl (any_of HT_.out (by kernel_rfl)) (fun _ _ _ h => h) (Or.inl ⟨by rfl, ?_⟩) ?_ ?_
 rotate_left
 · intro w'
   go_simp
   with_reducible rfl
 rotate_left
 · simp only [Act.put, List.setIfInBounds_toArray, List.set_cons_zero, List.set_cons_succ, i64_w, i32_w]
   rfl
 refine pure_ (i := 3) (N := some 8) (v := ?_) (a' := ?_) #[false, true, true, true, false, false, false, false, false, false, false] rfl rfl (any_of HT_.out (by kernel_rfl)) (fun _ _ _ h => h) (Or.inl ⟨by rfl, ?_⟩) ?_ ?_
 rotate_left
 · intro w'
   go_simp
   with_reducible rfl
 rotate_left
 · simp only [Act.put, List.setIfInBounds_toArray, List.set_cons_zero, List.set_cons_succ, i64_w, i32_w]
   rfl
 refine pure_ (i := 5) (N := some 10) (v := ?_) (a' := ?_) #[false, true, true, true, false, true, false, false, false, false, false] rfl rfl (any_of HT_.out (by kernel_rfl)) (fun _ _ _ h => h) (Or.inl ⟨by rfl, ?_⟩) ?_ ?_
 rotate_left
 · intro w'
   go_simp
   with_reducible rfl
 rotate_left
 · simp only [Act.put, List.setIfInBounds_toArray, List.set_cons_zero, List.set_cons_succ, i64_w, i32_w]
   rfl
 refine pure_ (i := 6) (N := some 11) (v := ?_) (a' := ?_) #[false, true, true, true, false, true, true, false, false, false, false] rfl rfl (any_of HT_.out (by kernel_rfl)) (fun _ _ _ h => h) (Or.inl ⟨by rfl, ?_⟩) ?_ ?_
 rotate_left
 · intro w'
   go_simp
   with_reducible rfl
 rotate_left
 · simp only [Act.put, List.setIfInBounds_toArray, List.set_cons_zero, List.set_cons_succ, i64_w, i32_w]
   rfl
 refine pure_ (i := 7) (N := some 12) (v := ?_) (a' := ?_) #[false, true, true, true, false, true, true, true, false, false, false] rfl rfl (any_of HT_.out (by kernel_rfl)) (fun _ _ _ h => h) (Or.inl ⟨by rfl, ?_⟩) ?_ ?_
 rotate_left
 · intro w'
   go_simp
   with_reducible rfl
 rotate_left
 · simp only [Act.put, List.setIfInBounds_toArray, List.set_cons_zero, List.set_cons_succ, i64_w, i32_w]
   rfl
 refine pure_ (i := 8) (N := some 13) (v := ?_) (a' := ?_) #[false, true, true, true, false, true, true, true, true, false, false] rfl rfl (any_of HT_.out (by kernel_rfl)) (fun _ _ _ h => h) (Or.inl ⟨by rfl, ?_⟩) ?_ ?_
 rotate_left
 · intro w'
   go_simp
   with_reducible rfl
 rotate_left
 · simp only [Act.put, List.setIfInBounds_toArray, List.set_cons_zero, List.set_cons_succ, i64_w, i32_w]
   rfl
 refine one_ (i := 0) (N := some 5) #[true, true, true, true, false, true, true, true, true, false, false] rfl rfl (one_of HT_.out (by kernel_rfl)) (by decide) (fun K hK => ?_)
 refine Kd.R_lit_step k26 _ 26 ?hg (N := 5) ?hd (xs := ([] : List (S26))) (inner := []) (ok := fun _ => True) (okp := fun _ => True) ?hr ?hp (fun _ hk => hk) trivial (Below.refl _ _) (Nat.le_refl _) (by simp) ?_; (case hd => rfl); (case hg => rfl); (case hr => first | (go_simp; done) | (go_simp; rfl)); (case hp => exact (Reps.none _ _))
 intro v169 w13 ho14 hb hg_ hnew_
 clear hg_ hnew_
 (first | rw [← Ny168.out] at ho14 | (simp only [Int.reduceToNat] at ho14; rw [← Ny168.out] at ho14))
 have n0_ := Aside0.mk (Kd.R_lower ho14 (below_size z4_1_))
 have n1_ := Aside0.mk (below_step z4_1_ hb)
 clear HB
 have HO170 := n0_
 have HB := n1_
 clear n0_ n1_
 clear hb ho14
 refine hK.out _ _ trivial (fun hHeld => ?_)
 clear hK K
 refine norm_ (a' := ?_) ?_ ?_
 rotate_left
 · show Act.put _ (some 5) _ = _
   simp only [Act.put, List.setIfInBounds_toArray, List.set_cons_zero, List.set_cons_succ, i64_w, i32_w]
   rfl
 refine one_ (i := 4) (N := some 9) #[true, true, true, true, true, true, true, true, true, false, false] rfl rfl (one_of HT_.out (by kernel_rfl)) (by decide) (fun K hK => ?_)
 refine Kd.R_append_rows_step k26 (w0 := w) w.heap.size (by rfl) (.tmp 5) (.tmp 8) 35 26 (.agg #[(.int .i64 0), (.int .i64 0), (.int .i64 0)]) 24 rfl Tryd.underlying35 info26 rfl (by decide) (by omega) v169 y168 y171 _ _ _ (fun _ => True) (fun _ => False) rfl rfl ?aO ?aR (fun _ _ h => h) (fun _ h => h.elim) ?aF ?aB ?aS ?aL ?_
 (case aR => repeat (first | exact (Kd.C_below HR174.out HB.out) | (with_reducible refine Kd.C_alloc ?_ _) | (with_reducible refine Kd.C_drewN ?_ _) | (with_reducible refine Kd.C_drew ?_)))
 (case aB => exact z4_1_)
 (case aF => exact (fun _ _ => trivial))
 (case aO => exact (by (with_reducible repeat (first | apply Kd.R_alloc | apply Kd.R_drewN | apply Kd.R_drew)); exact HO170.out))
 (case aS => exact (below_size z4_1_))
 (case aL => have := LMc5.out; omega)
 intro v176 w15 ho hb hg hat
 rw [← Ny175.out] at ho
 have n0_ := Aside0.mk (hb)
 have n1_ := Aside0.mk (ho)
 clear HB
 clear HO170
 have HB := n0_
 have HO177 := n1_
 clear n0_ n1_
 clear ho hb hg hat
 refine hK.out _ _ trivial (fun hHeld => ?_)
 clear hK K
 refine norm_ (a' := ?_) ?_ ?_
 rotate_left
 · show Act.put _ (some 9) _ = _
   simp only [Act.put, List.setIfInBounds_toArray, List.set_cons_zero, List.set_cons_succ, i64_w, i32_w]
   rfl
 refine one_ (i := 9) (N := some 14) #[true, true, true, true, true, true, true, true, true, true, false] rfl rfl (one_of HT_.out (by kernel_rfl)) (by decide) (fun K hK => ?_)
 refine Kd.R_append_rows_step k26 (w0 := w) w.heap.size (by rfl) (.tmp 9) (.tmp 13) 35 26 (.agg #[(.int .i64 0), (.int .i64 0), (.int .i64 0)]) 24 rfl Tryd.underlying35 info26 rfl (by decide) (by omega) v176 y175 y178 _ _ _ (fun _ => True) (fun _ => False) rfl rfl ?aO ?aR (fun _ _ h => h) (fun _ h => h.elim) ?aF ?aB ?aS ?aL ?_
 (case aR => repeat (first | exact (Kd.C_below HR181.out HB.out) | (with_reducible refine Kd.C_alloc ?_ _) | (with_reducible refine Kd.C_drewN ?_ _) | (with_reducible refine Kd.C_drew ?_)))
 (case aB => exact z4_1_)
 (case aF => exact (fun _ _ => trivial))
 (case aO => exact (by (with_reducible repeat (first | apply Kd.R_alloc | apply Kd.R_drewN | apply Kd.R_drew)); exact HO177.out))
 (case aS => exact (below_size z4_1_))
 (case aL => have := LMc9.out; omega)
 intro v183 w16 ho hb hg hat
 rw [← Ny182.out] at ho
 have n0_ := Aside0.mk (hb)
 have n1_ := Aside0.mk (ho)
 clear HB
 clear HO177
 have HB := n0_
 have HO184 := n1_
 clear n0_ n1_
 clear ho hb hg hat
 refine hK.out _ _ trivial (fun hHeld => ?_)
 clear hK K
 refine norm_ (a' := ?_) ?_ ?_
 rotate_left
 · show Act.put _ (some 14) _ = _
   simp only [Act.put, List.setIfInBounds_toArray, List.set_cons_zero, List.set_cons_succ, i64_w, i32_w]
   rfl
 refine pure_ (i := 10) (N := some 4) (v := ?_) (a' := ?_) #[true, true, true, true, true, true, true, true, true, true, true] rfl rfl (any_of HT_.out (by kernel_rfl)) (fun _ _ _ h => h) (Or.inl ⟨by rfl, ?_⟩) ?_ ?_
 rotate_left
 · intro w'
   go_simp
   with_reducible rfl
 rotate_left
 · simp only [Act.put, List.setIfInBounds_toArray, List.set_cons_zero, List.set_cons_succ, i64_w, i32_w]
   rfl
 refine done_ (done_of HT_.out (by kernel_rfl)) ?_
 try go_wp2
 go_ret
 exact ⟨_, by first | rfl | (simp [errW_none, errW_some] <;> rfl) | (simp only [← hji6]; first | rfl | (simp [errW_none, errW_some] <;> rfl)) | (simp [*, errW_none, errW_some] <;> rfl), by (with_reducible repeat (first | apply Kd.R_alloc | apply Kd.R_drewN | apply Kd.R_drew)); exact HO184.out, by repeat (first | (with_reducible first | exact HB.out | apply below_alloc | apply pw_below_drewN | apply below_drew1) | exact HB.out)⟩

/-! ### spec_HarderPuzzle: function 47 -/
mutual
def spec_HarderPuzzle.j0 : Nat → Bool → List (S26) → Option ((List (S26)) × Bool)
 | 0, _, _ => none
 | k + 1, x15, x186000 => if x15 = true then (some (([] : List (S26)), false)) else ((some (([] : List (S26)) : List (S26))).bind fun y189 => (if y189.length + x186000.length < 5864062014805 then (spec_HarderPuzzle.l0 k (y189 ++ x186000) 0) else (none)))
def spec_HarderPuzzle.l0 : Nat → List (S26) → Int → Option ((List (S26)) × Bool)
 | 0, _, _ => none
 | k + 1, x4, x5 => if x5 < (x4.length : Int) then ((spec_pzWithout.f x4 x5).bind fun t195 => ((spec_pzSolved.f k t195).bind fun t198 => (if t198 = true then (spec_HarderPuzzle.l0 k t195 x5) else (spec_HarderPuzzle.l0 k x4 (wrap64 (x5 + 1)))))) else (some (x4, true))
end
def spec_HarderPuzzle.f (k : Nat) (l0_0 : List (S26)) : Option ((List (S26)) × Bool) := (spec_pzGood.f k l0_0).bind fun t187 => (if t187 = true then ((spec_pzSolved.f k l0_0).bind fun t188 => (spec_HarderPuzzle.j0 k (!t188) l0_0)) else (spec_HarderPuzzle.j0 k true l0_0))
theorem spec_HarderPuzzle.mono_l : ∀ k, (∀ y0 y1, LeO (spec_HarderPuzzle.j0 k y0 y1) (spec_HarderPuzzle.j0 (k + 1) y0 y1)) ∧ (∀ y0 y1, LeO (spec_HarderPuzzle.l0 k y0 y1) (spec_HarderPuzzle.l0 (k + 1) y0 y1))
 | 0 => ⟨fun _ _ r h => by simp [spec_HarderPuzzle.j0] at h, fun _ _ r h => by simp [spec_HarderPuzzle.l0] at h⟩
 | k + 1 => by
  obtain ⟨ih0, ih1⟩ := spec_HarderPuzzle.mono_l k
  refine ⟨?_, ?_⟩
  · intro y0 y1
    unfold spec_HarderPuzzle.j0
    repeat' first
    | (with_reducible exact ih0 _ _)
    | (with_reducible exact ih1 _ _)
    | (with_reducible exact spec_pzGood.mono _ _)
    | (with_reducible exact spec_pzSolved.mono _ _)
    | (with_reducible exact LeO.refl _)
    | (with_reducible exact LeO.none _)
    | (with_reducible refine LeO.ite ?_ ?_)
    | (with_reducible refine LeO.bind ?_ (fun _ => ?_))
    | exact ih0 _ _
    | exact ih1 _ _
    | exact spec_pzGood.mono _ _
    | exact spec_pzSolved.mono _ _
    | exact LeO.none _
    | refine LeO.ite ?_ ?_
    | refine LeO.bind ?_ (fun _ => ?_)
  intro y0 y1
  unfold spec_HarderPuzzle.l0
  repeat' first
  | (with_reducible exact ih0 _ _)
  | (with_reducible exact ih1 _ _)
  | (with_reducible exact spec_pzGood.mono _ _)
  | (with_reducible exact spec_pzSolved.mono _ _)
  | (with_reducible exact LeO.refl _)
  | (with_reducible exact LeO.none _)
  | (with_reducible refine LeO.ite ?_ ?_)
  | (with_reducible refine LeO.bind ?_ (fun _ => ?_))
  | exact ih0 _ _
  | exact ih1 _ _
  | exact spec_pzGood.mono _ _
  | exact spec_pzSolved.mono _ _
  | exact LeO.none _
  | refine LeO.ite ?_ ?_
  | refine LeO.bind ?_ (fun _ => ?_)
theorem spec_HarderPuzzle.mono : ∀ a0 k, LeO (spec_HarderPuzzle.f k a0) (spec_HarderPuzzle.f (k + 1) a0) := by
 intro a0 k
 obtain ⟨ih0, ih1⟩ := spec_HarderPuzzle.mono_l k
 unfold spec_HarderPuzzle.f
 repeat' first
  | (with_reducible exact ih0 _ _)
  | (with_reducible exact ih1 _ _)
  | (with_reducible exact spec_pzGood.mono _ _)
  | (with_reducible exact spec_pzSolved.mono _ _)
  | (with_reducible exact LeO.refl _)
  | (with_reducible exact LeO.none _)
  | (with_reducible refine LeO.ite ?_ ?_)
  | (with_reducible refine LeO.bind ?_ (fun _ => ?_))
  | exact ih0 _ _
  | exact ih1 _ _
  | exact spec_pzGood.mono _ _
  | exact spec_pzSolved.mono _ _
  | exact LeO.none _
  | refine LeO.ite ?_ ?_
  | refine LeO.bind ?_ (fun _ => ?_)
set_option maxHeartbeats 8000000 in
set_option maxRecDepth 100000 in
theorem spec_HarderPuzzle.calls (k : Nat) (A0_0 : Option Addr) (c0_0 : Nat) (l0_0 : List (S26)) (r1 : List (S26)) (r2 : Bool) (w : World) (hr0_0 : Kd.C k26 w A0_0 l0_0.length l0_0) (hc0_0 : l0_0.length ≤ c0_0) (h : spec_HarderPuzzle.f k l0_0 = some (r1, r2)) :
 Calls Tryd.prog 47 #[.agg #[.slice A0_0 l0_0.length c0_0]] w fun e w' => ∃ v0_ : Value, e = .returned (.tuple #[.agg #[v0_], .bool r2]) ∧ Kd.R k26 26 w' w.heap.size (fun _ => True) v0_ r1 ∧ Below w.heap.size w w' := by
 have hu37 := Tryd.underlying37
 have HR0_0 := Aside0.mk hr0_0
 have HC0_0 := Aside0.mk hc0_0
 clear hr0_0 hc0_0
 have HB := Aside0.mk (Below.refl w.heap.size w)
 have H : ((spec_pzGood.f k l0_0).bind fun t187 => (if t187 = true then ((spec_pzSolved.f k l0_0).bind fun t188 => (spec_HarderPuzzle.j0 k (!t188) l0_0)) else (spec_HarderPuzzle.j0 k true l0_0))) = some (r1, r2) := h
 clear h
 have HC2 := Aside0.mk H
 clear H
 go_enter Tryd.func47, Tryd.ntmps47
 go_upto_region 1 with (first | ((with_reducible refine gate_dst (N := 1) rfl ?_); refine box_event ?hg (N := 1) ?hd (cs := #[.slice A0_0 l0_0.length c0_0]) (t := 37) ?hr ?_; (case hd => rfl); (case hg => rfl); (case hr => first | (go_simp; done) | (go_simp; rfl)); intro gb185 hg w3 hbox hb; have n0_ := Aside0.mk (below_step z4_1_ hb); have n1_ := Aside0.mk (hbox); have n2_ := Aside0.mk ((by rw [hg]; exact (below_size z4_1_) : w.heap.size ≤ gb185)); have n3_ := Aside0.mk ((by rw [hg]; exact (below_size z4_1_) : w.heap.size ≤ gb185)); clear HB; have HB := n0_; have BK185 := n1_; have GW185 := n2_; have GE185 := n3_; clear n0_ n1_ n2_ n3_; clear hb hbox hg) | ((with_reducible refine gate_dst (N := 2) rfl ?_); refine box_event ?hg (N := 2) ?hd (cs := #[.slice none 0 0]) (t := 37) ?hr ?_; (case hd => rfl); (case hg => rfl); (case hr => first | (go_simp; done) | (go_simp; rfl)); intro gb186 hg w4 hbox hb; have n0_ := Aside0.mk (blk_below (g := gb185) (o := .cells #[.slice A0_0 l0_0.length c0_0] 37 (0, 0)) z4_2_ hb); have n1_ := Aside0.mk (below_step z4_7_ hb); have n2_ := Aside0.mk (hbox); have n3_ := Aside0.mk ((by rw [hg]; exact (below_size z4_7_) : w.heap.size ≤ gb186)); have n4_ := Aside0.mk ((by rw [hg]; exact (below_size z4_7_) : w.heap.size ≤ gb186)); have n5_ := Aside0.mk ((by rw [hg]; exact Nat.ne_of_lt (blk_lt (g := gb185) (o := .cells #[.slice A0_0 l0_0.length c0_0] 37 (0, 0)) z4_2_) : gb185 ≠ gb186)); have n6_ := Aside0.mk ((by rw [hg]; exact Nat.ne_of_gt (blk_lt (g := gb185) (o := .cells #[.slice A0_0 l0_0.length c0_0] 37 (0, 0)) z4_2_) : gb186 ≠ gb185)); clear BK185; clear HB; have BK185 := n0_; have HB := n1_; have BK186 := n2_; have GW186 := n3_; have GE186 := n4_; have NB185_186 := n5_; have NB186_185 := n6_; clear n0_ n1_ n2_ n3_ n4_ n5_ n6_; clear hb hbox hg))
 (try simp only [Act.put, List.setIfInBounds_toArray, List.set_cons_zero, List.set_cons_succ])
 go_cut [15] (fun v15 wc => ∃ (kq : Nat) (x15_1 : Bool), v15 = .bool x15_1 ∧ Aside0 (spec_HarderPuzzle.j0 kq x15_1 l0_0 = some (r1, r2)) ∧ Aside0 (kq ≤ k) ∧ Aside0 (wc.heap[gb185]? = some (.cells #[(.slice A0_0 l0_0.length c0_0)] 37 (0, 0))) ∧ Aside0 (wc.heap[gb186]? = some (.cells #[(.slice none 0 0)] 37 (0, 0))) ∧ Aside0 (Below w.heap.size w wc))
 case first =>
  have H := HC2.out
  clear HC2
  replace H := Option.bind_eq_some_iff.mp H
  obtain ⟨t187, A50, H⟩ := H
  have A5 := Aside0.mk A50
  clear A50
  by_cases c6 : t187 = true
  · subst c6
    have H1 : ((spec_pzSolved.f k l0_0).bind fun t188 => (spec_HarderPuzzle.j0 k (!t188) l0_0)) = some (r1, r2) := by rw [if_pos rfl] at H; exact H
    clear H
    have H := H1
    clear H1
    replace H := Option.bind_eq_some_iff.mp H
    obtain ⟨t188, A70, H⟩ := H
    have A7 := Aside0.mk A70
    clear A70
    have H' := Aside0.mk H
    clear H
    have hnb8 := NB185_186.out
    have hnc8 := NB186_185.out
    have hcz9_0 : w4.cell? ⟨gb185, 0, none⟩ = some (.slice A0_0 l0_0.length c0_0) := (blk_cell BK185.out 0).trans rfl
    have hfz9_0 := blk_frozen BK185.out 0
    go_wp2_with (first | ((with_reducible refine gate_callee (f := 58) rfl ?_); refine goesL_ (some 8) rfl rfl Tryd.func58 (by kernel_rfl) rfl #[.agg #[.slice A0_0 l0_0.length c0_0]] rfl z4_4_ ?_; (with_reducible refine (spec_pzGood.calls k _ _ l0_0 true _ ?side1 ?side2 A5.out).mono ?_); (case side1 => repeat (first | exact (Kd.C_below HR0_0.out HB.out) | (with_reducible refine Kd.C_alloc ?_ _) | (with_reducible refine Kd.C_drewN ?_ _) | (with_reducible refine Kd.C_drew ?_))); (case side2 => exact HC0_0.out); rintro e w10 ⟨rfl, hb⟩; refine ⟨_, rfl, ?_⟩; have n0_ := Aside0.mk (blk_below (g := gb185) (o := .cells #[.slice A0_0 l0_0.length c0_0] 37 (0, 0)) z4_2_ hb); have n1_ := Aside0.mk (blk_below (g := gb186) (o := .cells #[.slice none 0 0] 37 (0, 0)) z4_3_ hb); have n2_ := Aside0.mk (below_step z4_0_ hb); clear BK185; clear BK186; clear HB; have BK185 := n0_; have BK186 := n1_; have HB := n2_; clear n0_ n1_ n2_; (try clear hb); (try clear hb2); (try clear hk); (try clear hi); have hcz11_0 : w10.cell? ⟨gb185, 0, none⟩ = some (.slice A0_0 l0_0.length c0_0) := (blk_cell BK185.out 0).trans rfl; have hfz11_0 := blk_frozen BK185.out 0) | (go_at_call 62; (with_reducible refine (spec_pzSolved.calls k _ _ l0_0 t188 _ ?side1 ?side2 A7.out).mono ?_); (case side1 => repeat (first | exact (Kd.C_below HR0_0.out HB.out) | (with_reducible refine Kd.C_alloc ?_ _) | (with_reducible refine Kd.C_drewN ?_ _) | (with_reducible refine Kd.C_drew ?_))); (case side2 => exact HC0_0.out); rintro e w12 ⟨rfl, hb⟩; have n0_ := Aside0.mk (blk_below (g := gb185) (o := .cells #[.slice A0_0 l0_0.length c0_0] 37 (0, 0)) z4_2_ hb); have n1_ := Aside0.mk (blk_below (g := gb186) (o := .cells #[.slice none 0 0] 37 (0, 0)) z4_3_ hb); have n2_ := Aside0.mk (below_step z4_0_ hb); clear BK185; clear BK186; clear HB; have BK185 := n0_; have BK186 := n1_; have HB := n2_; clear n0_ n1_ n2_; (try clear hb); (try clear hb2); (try clear hk); (try clear hi)))
    go_meet
    case rel => exact ⟨_, (!t188), (by first | rfl | (simp; done) | (simp [*]; done)), H', ⟨by first | omega | exact Nat.le_refl _⟩, ⟨by (with_reducible repeat (first | refine blk_drewN ?_ _ | refine blk_drew ?_ | refine blk_alloc ?_ _)); exact BK185.out⟩, ⟨by (with_reducible repeat (first | refine blk_drewN ?_ _ | refine blk_drew ?_ | refine blk_alloc ?_ _)); exact BK186.out⟩, ⟨by repeat (first | (with_reducible first | exact HB.out | apply below_alloc | apply pw_below_drewN | apply below_drew1 | refine below_set ?_ GE185.out | refine below_set ?_ GE186.out) | exact HB.out)⟩⟩
  replace c6 := Bool.eq_false_iff.mpr c6
  subst c6
  have H1 : (spec_HarderPuzzle.j0 k true l0_0) = some (r1, r2) := by rw [if_neg (show ¬ (false = true) by decide)] at H; exact H
  clear H
  have H := H1
  clear H1
  have H' := Aside0.mk H
  clear H
  have hnb13 := NB185_186.out
  have hnc13 := NB186_185.out
  have hcz14_0 : w4.cell? ⟨gb185, 0, none⟩ = some (.slice A0_0 l0_0.length c0_0) := (blk_cell BK185.out 0).trans rfl
  have hfz14_0 := blk_frozen BK185.out 0
  go_wp2_with (first | ((with_reducible refine gate_callee (f := 58) rfl ?_); refine goesL_ (some 8) rfl rfl Tryd.func58 (by kernel_rfl) rfl #[.agg #[.slice A0_0 l0_0.length c0_0]] rfl z4_4_ ?_; (with_reducible refine (spec_pzGood.calls k _ _ l0_0 false _ ?side1 ?side2 A5.out).mono ?_); (case side1 => repeat (first | exact (Kd.C_below HR0_0.out HB.out) | (with_reducible refine Kd.C_alloc ?_ _) | (with_reducible refine Kd.C_drewN ?_ _) | (with_reducible refine Kd.C_drew ?_))); (case side2 => exact HC0_0.out); rintro e w15 ⟨rfl, hb⟩; refine ⟨_, rfl, ?_⟩; have n0_ := Aside0.mk (blk_below (g := gb185) (o := .cells #[.slice A0_0 l0_0.length c0_0] 37 (0, 0)) z4_2_ hb); have n1_ := Aside0.mk (blk_below (g := gb186) (o := .cells #[.slice none 0 0] 37 (0, 0)) z4_3_ hb); have n2_ := Aside0.mk (below_step z4_0_ hb); clear BK185; clear BK186; clear HB; have BK185 := n0_; have BK186 := n1_; have HB := n2_; clear n0_ n1_ n2_; (try clear hb); (try clear hb2); (try clear hk); (try clear hi)))
  go_meet
  case rel => exact ⟨_, (true), (by first | rfl | (simp; done) | (simp [*]; done)), H', ⟨by first | omega | exact Nat.le_refl _⟩, ⟨by (with_reducible repeat (first | refine blk_drewN ?_ _ | refine blk_drew ?_ | refine blk_alloc ?_ _)); exact BK185.out⟩, ⟨by (with_reducible repeat (first | refine blk_drewN ?_ _ | refine blk_drew ?_ | refine blk_alloc ?_ _)); exact BK186.out⟩, ⟨by repeat (first | (with_reducible first | exact HB.out | apply below_alloc | apply pw_below_drewN | apply below_drew1 | refine below_set ?_ GE185.out | refine below_set ?_ GE186.out) | exact HB.out)⟩⟩
 case rest =>
  clear HC2
  (try clear c1);(try clear p2);(try clear c4);(try clear c5);(try clear c6);(try clear c8);(try clear c13);(try clear hcz11_0);(try clear hcz14_0);(try clear hcz9_0);(try clear hfz11_0);(try clear hfz14_0);(try clear hfz9_0)
  obtain ⟨kq, x15_1, rfl, HA, HJ1, BK185, BK186, HB⟩ := hcut
  cases kq with
  | zero => exact absurd HA.out (by simp [spec_HarderPuzzle.j0])
  | succ kj1 =>
   have H := HA.out
   clear HA
   simp only [spec_HarderPuzzle.j0] at H
   by_cases c16 : x15_1 = true
   · subst c16
     have H1 : (some (([] : List (S26)), false)) = some (r1, r2) := by rw [if_pos rfl] at H; exact H
     clear H
     have H := H1
     clear H1
     simp only [Option.some.injEq, Prod.mk.injEq] at H
     obtain ⟨rfl, rfl⟩ := H
     have hnb17 := NB186_185.out
     have hnc17 := NB185_186.out
     have hcz18_0 : wc.cell? ⟨gb186, 0, none⟩ = some (.slice none 0 0) := (blk_cell BK186.out 0).trans rfl
     have hfz18_0 := blk_frozen BK186.out 0
     go_wp2
     refine bodyPost_ret (results_ct rfl _ _ gb186 37 #[.slice none 0 0] (0, 0) _ rfl z4_6_ Tryd.underlying37 rfl (by kernel_rfl)) rfl ?_
     exact ⟨_, by first | rfl | (simp [errW_none, errW_some] <;> rfl) | (simp [*, errW_none, errW_some] <;> rfl), by first | exact Kd.R_nil _ _ _ _ _ | exact Kd.N_nil _ _ _ _ _ | exact Kd.V_nil _ _ _ _ _ | exact Kd.Q_nil _ _ _ _ _ | exact Kd.S_nil _ _ _ _ _, by repeat (first | (with_reducible first | exact HB.out | apply below_alloc | apply pw_below_drewN | apply below_drew1 | refine below_set ?_ GE185.out | refine below_set ?_ GE186.out) | exact HB.out)⟩
   replace c16 := Bool.eq_false_iff.mpr c16
   subst c16
   have H1 : ((some (([] : List (S26)) : List (S26))).bind fun y189 => (if y189.length + l0_0.length < 5864062014805 then (spec_HarderPuzzle.l0 kj1 (y189 ++ l0_0) 0) else (none))) = some (r1, r2) := by rw [if_neg (show ¬ (false = true) by decide)] at H; exact H
   clear H
   have H := H1
   clear H1
   obtain ⟨y189, hy189⟩ : ∃ y_ : List (S26), y_ = (([] : List (S26))) := ⟨_, rfl⟩
   replace H : (if y189.length + l0_0.length < 5864062014805 then (spec_HarderPuzzle.l0 kj1 (y189 ++ l0_0) 0) else (none)) = some (r1, r2) := by first | (rw [hy189]; with_reducible exact H) | (have H2_ := (Option.bind_some _ _).symm.trans H; rw [hy189]; with_reducible exact H2_) | (have H2_ := (Option.bind_some _ _).symm.trans H; with_reducible exact H2_) | with_reducible exact H | (rw [hy189]; exact H) | exact H
   have Ny189 := Aside0.mk hy189
   clear hy189
   by_cases c19 : y189.length + l0_0.length < 5864062014805
   rotate_left
   · exact none_ (if_neg c19) H
   rw [if_pos c19] at H
   have LMc19 := Aside0.mk c19
   clear c19
   obtain ⟨y192, hy192⟩ : ∃ y_ : List (S26), y_ = (y189 ++ l0_0) := ⟨_, rfl⟩
   replace H : (spec_HarderPuzzle.l0 kj1 y192 0) = some (r1, r2) := by first | (rw [hy192]; with_reducible exact H) | (have H2_ := (Option.bind_some _ _).symm.trans H; rw [hy192]; with_reducible exact H2_) | (have H2_ := (Option.bind_some _ _).symm.trans H; with_reducible exact H2_) | with_reducible exact H | (rw [hy192]; exact H) | exact H
   have Ny192 := Aside0.mk hy192
   clear hy192
   have H' := Aside0.mk H
   clear H
   go_wp2_with (first | ((with_reducible refine gate_dst (N := 17) rfl ?_); refine Kd.R_lit k26 _ 26 ?hg (N := 17) ?hd (xs := ([] : List (S26))) (inner := []) (ok := fun _ => True) (okp := fun _ => True) ?hr ?hp (fun _ hk => hk) trivial (Below.refl _ _) (Nat.le_refl _) (by simp) ?_; (case hd => rfl); (case hg => rfl); (case hr => first | (go_simp; done) | (go_simp; rfl)); (case hp => exact (Reps.none _ _)); intro v190 w20 ho21 hb hg_ hnew_; clear hg_ hnew_; (first | rw [← Ny189.out] at ho21 | (simp only [Int.reduceToNat] at ho21; rw [← Ny189.out] at ho21)); have n0_ := Aside0.mk (Kd.R_lower ho21 (below_size z4_0_)); have n1_ := Aside0.mk (blk_below (g := gb185) (o := .cells #[.slice A0_0 l0_0.length c0_0] 37 (0, 0)) z4_2_ hb); have n2_ := Aside0.mk (blk_below (g := gb186) (o := .cells #[.slice none 0 0] 37 (0, 0)) z4_3_ hb); have n3_ := Aside0.mk (below_step z4_0_ hb); clear BK185; clear BK186; clear HB; have HO191 := n0_; have BK185 := n1_; have BK186 := n2_; have HB := n3_; clear n0_ n1_ n2_ n3_; clear hb ho21; have hnb22 := NB185_186.out; have hnc22 := NB186_185.out; have hcz23_0 : w20.cell? ⟨gb185, 0, none⟩ = some (.slice A0_0 l0_0.length c0_0) := (blk_cell BK185.out 0).trans rfl; have hfz23_0 := blk_frozen BK185.out 0) | ((with_reducible refine gate_builtin (b := .append) (xs := #[.tmp 17, .tmp 19]) rfl ?_); at_builtin; refine Kd.R_append_rows k26 (w0 := w) w.heap.size rfl (.tmp 17) (.tmp 19) 35 26 (.agg #[(.int .i64 0), (.int .i64 0), (.int .i64 0)]) 24 rfl Tryd.underlying35 info26 rfl (by decide) (by omega) v190 y189 l0_0 _ _ _ (fun _ => True) (fun _ => False) rfl rfl ?aO ?aR (fun _ _ h => h) (fun _ h => h.elim) ?aF ?aB ?aS ?aL ?_; (case aR => repeat (first | exact (Kd.C_below HR0_0.out HB.out) | (with_reducible refine Kd.C_alloc ?_ _) | (with_reducible refine Kd.C_drewN ?_ _) | (with_reducible refine Kd.C_drew ?_))); (case aB => exact z4_0_); (case aF => exact (fun _ _ => trivial)); (case aO => exact (by (with_reducible repeat (first | apply Kd.R_alloc | apply Kd.R_drewN | apply Kd.R_drew)); exact HO191.out)); (case aS => exact (below_size z4_0_)); (case aL => have := LMc19.out; omega); intro v193 w24 ho hb hg hat; rw [← Ny192.out] at ho; have n0_ := Aside0.mk (blk_grown (g := gb185) (o := .cells #[.slice A0_0 l0_0.length c0_0] 37 (0, 0)) z4_2_ hg (Kd.R_ne HO191.out BK185.out (by decide))); have n1_ := Aside0.mk (blk_grown (g := gb186) (o := .cells #[.slice none 0 0] 37 (0, 0)) z4_3_ hg (Kd.R_ne HO191.out BK186.out (by decide))); have n2_ := Aside0.mk (hb); have n3_ := Aside0.mk (ho); clear BK185; clear BK186; clear HB; clear HO191; have BK185 := n0_; have BK186 := n1_; have HB := n2_; have HO194 := n3_; clear n0_ n1_ n2_ n3_; clear ho hb hg hat))
   go_loopg [4, 5] kj1 (fun kq v4 v5 w' => ∃ (x4_2 : List (S26)) (x5_2 : Int), v5 = .int .i64 x5_2 ∧ Aside0 (spec_HarderPuzzle.l0 kq x4_2 x5_2 = some (r1, r2)) ∧ Aside0 (kq ≤ kj1) ∧ Aside0 (Kd.R k26 26 w' w.heap.size (fun _ => True) v4 x4_2) ∧ Aside0 (w'.heap[gb185]? = some (.cells #[(.slice A0_0 l0_0.length c0_0)] 37 (0, 0))) ∧ Aside0 (w'.heap[gb186]? = some (.cells #[(.slice none 0 0)] 37 (0, 0))) ∧ Aside0 (Below w.heap.size w w'))
   case atStart => exact ⟨(y192), (0), (by first | rfl | (simp; done) | (simp [*]; done)), H', ⟨Nat.le_refl _⟩, ⟨by (with_reducible repeat (first | apply Kd.R_alloc | apply Kd.R_drewN | apply Kd.R_drew)); exact HO194.out⟩, ⟨by (with_reducible repeat (first | refine blk_drewN ?_ _ | refine blk_drew ?_ | refine blk_alloc ?_ _)); exact BK185.out⟩, ⟨by (with_reducible repeat (first | refine blk_drewN ?_ _ | refine blk_drew ?_ | refine blk_alloc ?_ _)); exact BK186.out⟩, ⟨by repeat (first | (with_reducible first | exact HB.out | apply below_alloc | apply pw_below_drewN | apply below_drew1 | refine below_set ?_ GE185.out | refine below_set ?_ GE186.out) | exact HB.out)⟩⟩
   case round =>
    clear H'
    (try clear c1);(try clear c2);(try clear p2);(try clear c4);(try clear c5);(try clear c6);(try clear c8);(try clear c13);(try clear c16);(try clear c17);(try clear c19);(try clear c22);(try clear hcz11_0);(try clear hcz14_0);(try clear hcz18_0);(try clear hcz23_0);(try clear hcz9_0);(try clear hfz11_0);(try clear hfz14_0);(try clear hfz18_0);(try clear hfz23_0);(try clear hfz9_0);(try clear p2)
    obtain ⟨x4_2, x5_2, rfl, HA, HK2, HO_4, BK185, BK186, HB⟩ := hrel
    cases gk with
    | zero => exact absurd HA.out (by simp [spec_HarderPuzzle.l0])
    | succ k2 =>
     have H := HA.out
     clear HA
     simp only [spec_HarderPuzzle.l0] at H
     by_cases c25 : x5_2 < (x4_2.length : Int)
     · rw [if_pos c25] at H
       have c25b0 : decide (x5_2 < (x4_2.length : Int)) = true := decide_eq_true c25
       clear c25
       replace H := Option.bind_eq_some_iff.mp H
       obtain ⟨t195, A260, H⟩ := H
       have A26 := Aside0.mk A260
       clear A260
       replace H := Option.bind_eq_some_iff.mp H
       obtain ⟨t198, A270, H⟩ := H
       have A27 := Aside0.mk A270
       clear A270
       by_cases c28 : t198 = true
       · subst c28
         have H1 : (spec_HarderPuzzle.l0 k2 t195 x5_2) = some (r1, r2) := by rw [if_pos rfl] at H; exact H
         clear H
         have H := H1
         clear H1
         have H' := Aside0.mk H
         clear H
         obtain ⟨Ao29, co29, eo29⟩ := Kd.R_slice HO_4.out
         subst eo29
         go_wp2_with (first | ((with_reducible refine gate_callee (f := 74) rfl ?_); refine goesL_ (some 27) rfl rfl Tryd.func74 (by kernel_rfl) rfl #[.slice Ao29 x4_2.length co29, .int .i64 x5_2] rfl z4_4_ ?_; (with_reducible refine (spec_pzWithout.calls _ _ x4_2 x5_2 t195 _ ?side1 ?side2 A26.out).mono ?_); (case side1 => repeat (first | exact (Kd.R_reads' HO_4.out).2.2 | (with_reducible refine Kd.C_alloc ?_ _) | (with_reducible refine Kd.C_drewN ?_ _) | (with_reducible refine Kd.C_drew ?_))); (case side2 => exact (Kd.R_reads' HO_4.out).2.1); rintro e w30 ⟨v196, rfl, ho0, hb⟩; refine ⟨_, rfl, ?_⟩; have n0_ := Aside0.mk (Kd.R_elder' z4_5_ (Kd.R_base ho0) hb); have n1_ := Aside0.mk (Kd.R_lower (Kd.R_new' ho0 (Kd.R_lt z4_5_)) (below_size z4_0_)); have n2_ := Aside0.mk (blk_below (g := gb185) (o := .cells #[.slice A0_0 l0_0.length c0_0] 37 (0, 0)) z4_2_ hb); have n3_ := Aside0.mk (blk_below (g := gb186) (o := .cells #[.slice none 0 0] 37 (0, 0)) z4_3_ hb); have n4_ := Aside0.mk (below_step z4_0_ hb); clear HO_4; clear BK185; clear BK186; clear HB; have HO_4 := n0_; have HO197 := n1_; have BK185 := n2_; have BK186 := n3_; have HB := n4_; clear n0_ n1_ n2_ n3_ n4_; (try clear hb); (try clear hb2); (try clear hk); (try clear hi); (try clear ho0); obtain ⟨Ao31, co31, eo31⟩ := Kd.R_slice HO197.out; subst eo31) | ((with_reducible refine gate_callee (f := 62) rfl ?_); refine goesL_ (some 29) rfl rfl Tryd.func62 (by kernel_rfl) rfl #[.slice Ao31 t195.length co31] rfl z4_4_ ?_; (with_reducible refine (spec_pzSolved.calls k2 _ _ t195 true _ ?side1 ?side2 A27.out).mono ?_); (case side1 => repeat (first | exact (Kd.R_reads' HO197.out).2.2 | (with_reducible refine Kd.C_alloc ?_ _) | (with_reducible refine Kd.C_drewN ?_ _) | (with_reducible refine Kd.C_drew ?_))); (case side2 => exact (Kd.R_reads' HO197.out).2.1); rintro e w32 ⟨rfl, hb⟩; refine ⟨_, rfl, ?_⟩; have n0_ := Aside0.mk (Kd.R_below z4_5_ hb); have n1_ := Aside0.mk (Kd.R_below (by (with_reducible repeat (first | apply Kd.R_alloc | apply Kd.R_drewN | apply Kd.R_drew)); exact HO197.out) hb); have n2_ := Aside0.mk (blk_below (g := gb185) (o := .cells #[.slice A0_0 l0_0.length c0_0] 37 (0, 0)) z4_2_ hb); have n3_ := Aside0.mk (blk_below (g := gb186) (o := .cells #[.slice none 0 0] 37 (0, 0)) z4_3_ hb); have n4_ := Aside0.mk (below_step z4_0_ hb); clear HO_4; clear HO197; clear BK185; clear BK186; clear HB; have HO_4 := n0_; have HO197 := n1_; have BK185 := n2_; have BK186 := n3_; have HB := n4_; clear n0_ n1_ n2_ n3_ n4_; (try clear hb); (try clear hb2); (try clear hk); (try clear hi)))
         go_roundg k2
         case measure => have := HJ1.out; have := HK2.out; omega
         case rel => exact ⟨(t195), (x5_2), (by first | rfl | (simp; done) | (simp [*]; done)), H', ⟨by have := HJ1.out; have := HK2.out; omega⟩, ⟨by (with_reducible repeat (first | apply Kd.R_alloc | apply Kd.R_drewN | apply Kd.R_drew)); exact Kd.R_mono HO197.out (fun _ hk => trivial)⟩, ⟨by (with_reducible repeat (first | refine blk_drewN ?_ _ | refine blk_drew ?_ | refine blk_alloc ?_ _)); exact BK185.out⟩, ⟨by (with_reducible repeat (first | refine blk_drewN ?_ _ | refine blk_drew ?_ | refine blk_alloc ?_ _)); exact BK186.out⟩, ⟨by repeat (first | (with_reducible first | exact HB.out | apply below_alloc | apply pw_below_drewN | apply below_drew1 | refine below_set ?_ GE185.out | refine below_set ?_ GE186.out) | exact HB.out)⟩⟩
       replace c28 := Bool.eq_false_iff.mpr c28
       subst c28
       have H1 : (spec_HarderPuzzle.l0 k2 x4_2 (wrap64 (x5_2 + 1))) = some (r1, r2) := by rw [if_neg (show ¬ (false = true) by decide)] at H; exact H
       clear H
       have H := H1
       clear H1
       have H' := Aside0.mk H
       clear H
       obtain ⟨Ao33, co33, eo33⟩ := Kd.R_slice HO_4.out
       subst eo33
       go_wp2_with (first | ((with_reducible refine gate_callee (f := 74) rfl ?_); refine goesL_ (some 27) rfl rfl Tryd.func74 (by kernel_rfl) rfl #[.slice Ao33 x4_2.length co33, .int .i64 x5_2] rfl z4_4_ ?_; (with_reducible refine (spec_pzWithout.calls _ _ x4_2 x5_2 t195 _ ?side1 ?side2 A26.out).mono ?_); (case side1 => repeat (first | exact (Kd.R_reads' HO_4.out).2.2 | (with_reducible refine Kd.C_alloc ?_ _) | (with_reducible refine Kd.C_drewN ?_ _) | (with_reducible refine Kd.C_drew ?_))); (case side2 => exact (Kd.R_reads' HO_4.out).2.1); rintro e w34 ⟨v196, rfl, ho0, hb⟩; refine ⟨_, rfl, ?_⟩; have n0_ := Aside0.mk (Kd.R_elder' z4_5_ (Kd.R_base ho0) hb); have n1_ := Aside0.mk (Kd.R_lower (Kd.R_new' ho0 (Kd.R_lt z4_5_)) (below_size z4_0_)); have n2_ := Aside0.mk (blk_below (g := gb185) (o := .cells #[.slice A0_0 l0_0.length c0_0] 37 (0, 0)) z4_2_ hb); have n3_ := Aside0.mk (blk_below (g := gb186) (o := .cells #[.slice none 0 0] 37 (0, 0)) z4_3_ hb); have n4_ := Aside0.mk (below_step z4_0_ hb); clear HO_4; clear BK185; clear BK186; clear HB; have HO_4 := n0_; have HO197 := n1_; have BK185 := n2_; have BK186 := n3_; have HB := n4_; clear n0_ n1_ n2_ n3_ n4_; (try clear hb); (try clear hb2); (try clear hk); (try clear hi); (try clear ho0); obtain ⟨Ao35, co35, eo35⟩ := Kd.R_slice HO197.out; subst eo35) | ((with_reducible refine gate_callee (f := 62) rfl ?_); refine goesL_ (some 29) rfl rfl Tryd.func62 (by kernel_rfl) rfl #[.slice Ao35 t195.length co35] rfl z4_4_ ?_; (with_reducible refine (spec_pzSolved.calls k2 _ _ t195 false _ ?side1 ?side2 A27.out).mono ?_); (case side1 => repeat (first | exact (Kd.R_reads' HO197.out).2.2 | (with_reducible refine Kd.C_alloc ?_ _) | (with_reducible refine Kd.C_drewN ?_ _) | (with_reducible refine Kd.C_drew ?_))); (case side2 => exact (Kd.R_reads' HO197.out).2.1); rintro e w36 ⟨rfl, hb⟩; refine ⟨_, rfl, ?_⟩; have n0_ := Aside0.mk (Kd.R_below z4_5_ hb); have n1_ := Aside0.mk (Kd.R_below (by (with_reducible repeat (first | apply Kd.R_alloc | apply Kd.R_drewN | apply Kd.R_drew)); exact HO197.out) hb); have n2_ := Aside0.mk (blk_below (g := gb185) (o := .cells #[.slice A0_0 l0_0.length c0_0] 37 (0, 0)) z4_2_ hb); have n3_ := Aside0.mk (blk_below (g := gb186) (o := .cells #[.slice none 0 0] 37 (0, 0)) z4_3_ hb); have n4_ := Aside0.mk (below_step z4_0_ hb); clear HO_4; clear HO197; clear BK185; clear BK186; clear HB; have HO_4 := n0_; have HO197 := n1_; have BK185 := n2_; have BK186 := n3_; have HB := n4_; clear n0_ n1_ n2_ n3_ n4_; (try clear hb); (try clear hb2); (try clear hk); (try clear hi)))
       go_roundg k2
       case measure => have := HJ1.out; have := HK2.out; omega
       case rel => exact ⟨(x4_2), (wrap64 (x5_2 + 1)), (by first | rfl | (simp; done) | (simp [*]; done)), H', ⟨by have := HJ1.out; have := HK2.out; omega⟩, ⟨by (with_reducible repeat (first | apply Kd.R_alloc | apply Kd.R_drewN | apply Kd.R_drew)); exact Kd.R_mono HO_4.out (fun _ hk => trivial)⟩, ⟨by (with_reducible repeat (first | refine blk_drewN ?_ _ | refine blk_drew ?_ | refine blk_alloc ?_ _)); exact BK185.out⟩, ⟨by (with_reducible repeat (first | refine blk_drewN ?_ _ | refine blk_drew ?_ | refine blk_alloc ?_ _)); exact BK186.out⟩, ⟨by repeat (first | (with_reducible first | exact HB.out | apply below_alloc | apply pw_below_drewN | apply below_drew1 | refine below_set ?_ GE185.out | refine below_set ?_ GE186.out) | exact HB.out)⟩⟩
     rw [if_neg c25] at H
     have c25b0 : decide (x5_2 < (x4_2.length : Int)) = false := decide_eq_false c25
     clear c25
     simp only [Option.some.injEq, Prod.mk.injEq] at H
     obtain ⟨rfl, rfl⟩ := H
     obtain ⟨Ao37, co37, eo37⟩ := Kd.R_slice HO_4.out
     subst eo37
     have hnb38 := NB186_185.out
     have hnc38 := NB185_186.out
     have hcz39_0 : wr.cell? ⟨gb186, 0, none⟩ = some (.slice none 0 0) := (blk_cell BK186.out 0).trans rfl
     have hfz39_0 := blk_frozen BK186.out 0
     go_wp2
     refine bodyPost_ret (results_ct rfl _ _ gb186 37 #[.slice Ao37 x4_2.length co37] (0, 0) _ rfl z4_6_ Tryd.underlying37 rfl (by kernel_rfl)) rfl ?_
     exact ⟨_, by first | rfl | (simp [errW_none, errW_some] <;> rfl) | (simp [*, errW_none, errW_some] <;> rfl), by (with_reducible repeat (first | apply Kd.R_alloc | apply Kd.R_drewN | apply Kd.R_drew)); exact Kd.R_mono (Kd.R_far (p := ⟨gb186, 0, none⟩) (Kd.R_types HO_4.out BK186.out (by decide)) (fun _ hk => hk.2) (.slice Ao37 x4_2.length co37)) (fun _ hk => trivial), by repeat (first | (with_reducible first | exact HB.out | apply below_alloc | apply pw_below_drewN | apply below_drew1 | refine below_set ?_ GE185.out | refine below_set ?_ GE186.out) | exact HB.out)⟩

-- NOT PRINTED: function 116 (impl_Clue_116)

-- NOT PRINTED: function 92 (impl_Clue_92)

/-! ### impl_within: function 66 -/
def impl_within.f (a0 : Int) (a1 : Int) (a2 : Int) : Option (Bool) := if a1 ≤ a0 then (some (decide (a0 ≤ a2))) else (some false)
set_option maxHeartbeats 8000000 in
set_option maxRecDepth 100000 in
theorem impl_within.calls (a0 : Int) (a1 : Int) (a2 : Int) (r : Bool) (w : World) (h : impl_within.f a0 a1 a2 = some r) :
 Calls Tryd.prog 66 #[.int .i64 a0, .int .i64 a1, .int .i64 a2] w fun e w' => e = .returned (.bool r) ∧ Drawn0 w w' := by
 have H : (if a1 ≤ a0 then (some (decide (a0 ≤ a2))) else (some false)) = some r := h
 clear h
 by_cases c4 : a1 ≤ a0
 · rw [if_pos c4] at H
   have c4b0 : decide (a1 ≤ a0) = true := decide_eq_true c4
   clear c4
   obtain rfl := Option.some.inj H
   go_enter Tryd.func66, Tryd.ntmps66
   go_wp2
   go_ret
   exact ⟨by first | rfl | (simp; done) | (simp [*]; done), by repeat (first | exact Drawn0.refl _ | apply Drawn0.step)⟩
 rw [if_neg c4] at H
 have c4b0 : decide (a1 ≤ a0) = false := decide_eq_false c4
 clear c4
 obtain rfl := Option.some.inj H
 go_enter Tryd.func66, Tryd.ntmps66
 go_wp2
 go_ret
 exact ⟨by first | rfl | (simp; done) | (simp [*]; done), by repeat (first | exact Drawn0.refl _ | apply Drawn0.step)⟩

end Go.Proofs.YtgpakeadepcgnaaDoor.PFnExactHarderPuzzle

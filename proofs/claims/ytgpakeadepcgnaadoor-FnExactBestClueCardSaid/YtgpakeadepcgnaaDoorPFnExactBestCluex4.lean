-- Laid by this session's program gprint.py over the kit's print.
import Derived.Test.YtgpakeadepcgnaaDoorPFnExactBestCluex0
import Derived.Test.YtgpakeadepcgnaaDoorPFnExactBestCluex2
import Derived.Test.YtgpakeadepcgnaaDoorPFnExactBestCluex3
namespace Go.Proofs.YtgpakeadepcgnaaDoor.PFnExactBestClue
open Go.RowKit Go.Proofs.YtgpakeadepcgnaaDoorW.PrintWords Go.Proofs.YtgpakeadepcgnaaDoorW.PrintLast Go.Proofs.YtgpakeadepcgnaaDoorW.PrintMore
attribute [local go_sem] max2_int min2_int max_two min_two max_three min_three max_four min_four   -- for this text's walks alone
set_option linter.unusedVariables false
set_option linter.unusedSimpArgs false
theorem z4_0_ {p : Prop} (h : p := by (try simp only [List.map_toArray, List.map_cons, List.map_nil]); first | done | rfl | (simp only [List.length_drop, List.length_take]; rfl)) : p := h
theorem z4_1_ {p : Prop} (h : p := by repeat (first | (with_reducible first | exact HB.out | apply below_alloc | apply pw_below_drewN | apply below_drew1) | exact HB.out)) : p := h
theorem z4_2_ {p : Prop} (h : p := by repeat (first | (with_reducible first | exact HB.out | apply below_alloc | apply pw_below_drewN | apply below_drew1 | refine below_set ?_ GE154.out) | exact HB.out)) : p := h
theorem z4_3_ {p : Prop} (h : p := by first | rfl | (simp; done) | (simp [*]; done)) : p := h
theorem z4_4_ {p : Prop} (h : p := by (with_reducible repeat (first | refine blk_drewN ?_ _ | refine blk_drew ?_ | refine blk_alloc ?_ _)); exact BK154.out) : p := h
theorem z4_5_ {p : Prop} (h : p := by first | (with_reducible assumption) | assumption) : p := h

/-! ### spec_pzAll: function 59 -/
def spec_pzLook.bad (k : Nat) (b : ByteArray) (x : S26) : Option Bool := (spec_pzFits.f k x.f0 x.f1 x.f2 b).map (!·)
def spec_pzLook.leaf (k : Nat) (l : List S26) (b : ByteArray) (out : List ByteArray) : Option (List ByteArray) := if out.length < 4096 then (Fn.anyO (spec_pzLook.bad k b) l).bind fun t => some (if t then out else out ++ [b]) else none
def spec_pzLook.dig (F : ByteArray → List ByteArray → Option (List ByteArray)) (k : Nat) (b : ByteArray) : Nat → Int → List ByteArray → Option (List ByteArray)
 | 0, _, out => some out
 | c + 1, n, out => (spec_l1Num.f k n).bind fun s => if b.size + s.size ≤ 4 then (if s.size = 1 then (F (b ++ s) out).bind fun o => spec_pzLook.dig F k b c (n + 1) o else none) else none
def spec_pzLook.f (k : Nat) (l : List S26) : Nat → ByteArray → List ByteArray → Option (List ByteArray)
 | 0, b, out => spec_pzLook.leaf k l b out
 | d + 1, b, out => spec_pzLook.dig (spec_pzLook.f k l d) k b 6 0 out
def spec_pzAll.f (k : Nat) (l0 : List S26) : Option (List ByteArray) := spec_pzLook.f k l0 4 ByteArray.empty []
theorem spec_pzLook.dig_mono {F G : ByteArray → List ByteArray → Option (List ByteArray)} (hF : ∀ b o, LeO (F b o) (G b o)) (k : Nat) (b : ByteArray) : ∀ c n out, LeO (spec_pzLook.dig F k b c n out) (spec_pzLook.dig G (k + 1) b c n out)
 | 0, _, _ => LeO.refl _
 | c + 1, n, out => by
  unfold spec_pzLook.dig
  refine LeO.bind (spec_l1Num.mono _ _) (fun s => LeO.ite (LeO.ite (LeO.bind (hF _ _) (fun o => spec_pzLook.dig_mono hF k b c _ _)) (LeO.refl _)) (LeO.refl _))
theorem spec_pzLook.mono (k : Nat) (l : List S26) : ∀ d b out, LeO (spec_pzLook.f k l d b out) (spec_pzLook.f (k + 1) l d b out)
 | 0, b, out => by
  unfold spec_pzLook.f spec_pzLook.leaf
  refine LeO.ite (LeO.bind (fun r hr => Fn.anyO_le (fun x r hr => ?_) l r hr) (fun _ => LeO.refl _)) (LeO.refl _)
  unfold spec_pzLook.bad at hr ⊢
  obtain ⟨t, ht, h⟩ := Option.map_eq_some_iff.mp hr
  exact Option.map_eq_some_iff.mpr ⟨t, spec_pzFits.mono _ _ _ _ _ t ht, h⟩
 | d + 1, b, out => spec_pzLook.dig_mono (fun b o => spec_pzLook.mono k l d b o) k b _ _ _
theorem spec_pzAll.mono : ∀ a0 k, LeO (spec_pzAll.f k a0) (spec_pzAll.f (k + 1) a0) := fun a0 k => spec_pzLook.mono k a0 _ _ _
theorem spec_pzLook.succ_ (n : Nat) (h : n < 4611686018427387904) : wrap64 ((n : Int) + 1) = ((n + 1 : Nat) : Int) := by simp [wrap64]; omega
theorem spec_pzLook.succv_ (n : Nat) (h : n < 4611686018427387904) : Value.int .i64 (wrap64 ((n : Int) + 1)) = Value.int .i64 ((n + 1 : Nat) : Int) := by rw [spec_pzLook.succ_ n h]
set_option maxHeartbeats 8000000 in
set_option maxRecDepth 100000 in
theorem spec_pzLook.calls (k : Nat) (A0 : Option Addr) (c0 : Nat) (l0 : List (S26)) (w0 : World) (g : Nat) (hr0 : Kd.C k26 w0 A0 l0.length l0) (hc0 : l0.length ≤ c0) (hg : w0.heap.size ≤ g) : ∀ (d : Nat) (b : ByteArray) (v : Value) (out r : List ByteArray) (w : World) (_ : b.size + d = 4) (_ : Below w0.heap.size w0 w) (_ : w.heap[g]? = some (.cells #[v] 53 (0, 0))) (_ : Kd.R Kd.string 9 w w0.heap.size (fun k => k ≠ g) v out) (_ : spec_pzLook.f k l0 d b out = some r),
 Calls Tryd.prog 86 #[.slice A0 l0.length c0, .string b, .pointer (some ⟨g, 0, none⟩)] w fun e w' => e = .returned (.tuple #[]) ∧ ∃ v', w'.heap[g]? = some (.cells #[v'] 53 (0, 0)) ∧ Kd.R Kd.string 9 w' w0.heap.size (fun k => k ≠ g) v' r ∧ Below w0.heap.size w0 w' := by
 have HR0 := Aside0.mk hr0
 have HC0 := Aside0.mk hc0
 have HG := Aside0.mk hg
 have hu26 := Tryd.underlying26
 clear hr0 hc0 hg
 intro d
 induction d with
 | zero =>
  intro b v out r w hd hb hk ho h
  have HB := Aside0.mk hb
  have BK := Aside0.mk hk
  have HO := Aside0.mk ho
  have c1 : decide ((b.size : Int) < 4) = false := decide_eq_false (by omega)
  have c2 : decide (b.size < 4) = false := decide_eq_false (by omega)
  unfold spec_pzLook.f spec_pzLook.leaf at h
  by_cases hl : out.length < 4096
  rotate_left
  · exact none_ (if_neg hl) h
  rw [if_pos hl] at h
  obtain ⟨t, ht, h⟩ := Option.bind_eq_some_iff.mp h
  obtain rfl := Option.some.inj h
  have HL := Aside0.mk hl
  have HA := Aside0.mk (show Fn.anyO (spec_pzLook.bad k b) (l0.drop 0) = some t from ht)
  clear hd hb hk ho h hl ht
  go_enter Tryd.func86, Tryd.ntmps86
  go_wp2
  go_loopg [25] (l0.length + 1) (fun kq v25 w' => ∃ j : Nat, v25 = .int .i64 (j : Int) ∧ Aside0 (j + kq = l0.length + 1) ∧ Aside0 (Fn.anyO (spec_pzLook.bad k b) (l0.drop j) = some t) ∧ Aside0 (w'.heap[g]? = some (.cells #[v] 53 (0, 0))) ∧ Aside0 (Kd.R Kd.string 9 w' w0.heap.size (fun k => k ≠ g) v out) ∧ Aside0 (Below w0.heap.size w0 w'))
  case atStart => exact ⟨0, rfl, ⟨by omega⟩, HA, BK, HO, HB⟩
  case round =>
   clear HA BK HO HB
   obtain ⟨j, rfl, HJ, HA, BK, HO, HB⟩ := hrel
   by_cases c : j < l0.length
   · obtain ⟨e, he, hbb⟩ := Fn.anyO_drop (spec_pzLook.bad k b) l0 z26 j c t HA.out
     obtain ⟨f, hf, hfe⟩ := Option.map_eq_some_iff.mp (show (spec_pzFits.f k (rd_T26 l0 (j : Int)).f0 (rd_T26 l0 (j : Int)).f1 (rd_T26 l0 (j : Int)).f2 b).map (!·) = some e from he)
     have HF := Aside0.mk hf
     have HBB := Aside0.mk hbb
     clear he hf hbb HA
     obtain ⟨ad1, e1, hx0, hx1, hx2⟩ := at_T26 HR0.out (j : Int) (by omega) (by omega)
     cases e1
     simp only [Int.toNat_natCast] at hx0 hx1 hx2
     replace hx0 := (HB.out.cell (World.block_lt_of_cell? w0 _ hx0)).trans hx0
     replace hx1 := (HB.out.cell (World.block_lt_of_cell? w0 _ hx1)).trans hx1
     replace hx2 := (HB.out.cell (World.block_lt_of_cell? w0 _ hx2)).trans hx2
     have p1 : (0 ≤ (j : Int)) = True := eq_true (by omega)
     have q1 : ((j : Int) < (l0.length : Int)) = True := eq_true (by omega)
     have d1 : decide ((j : Int) < (l0.length : Int)) = true := decide_eq_true (by omega)
     have d2 : decide (j < l0.length) = true := decide_eq_true c
     have hl0 := (HR0.out).2.1
     cases f with
     | false =>
      subst hfe
      have ht : t = true := by
       rcases HBB.out with ⟨_, e⟩ | ⟨e, _⟩
       · exact e
       cases e
      subst ht
      go_wp2_with (first | ((with_reducible refine gate_dst (N := 8) rfl ?_); refine box_event ?hg (N := 8) ?hd (cs := #[.int .i64 0, .int .i64 0, .int .i64 0]) (t := 26) ?hr ?_; (case hd => rfl); (case hg => rfl); (case hr => first | (go_simp; done) | (go_simp; rfl)); intro gb hg w12 hbox hb; have hcz0 : w12.cell? ⟨gb, 0, none⟩ = some (.int .i64 0) := (blk_cell hbox 0).trans rfl; have hcz1 : w12.cell? ⟨gb, 1, none⟩ = some (.int .i64 0) := (blk_cell hbox 1).trans rfl; have hcz2 : w12.cell? ⟨gb, 2, none⟩ = some (.int .i64 0) := (blk_cell hbox 2).trans rfl; have hfz0 := blk_frozen hbox 0; have hfz1 := blk_frozen hbox 1; have hfz2 := blk_frozen hbox 2; have HGB := Aside0.mk (show wr.heap.size ≤ gb by rw [hg]; exact Nat.le_refl _); have HBX := Aside0.mk hb; clear hb hbox hg) | (go_at_call 53; (with_reducible refine (spec_pzFits.calls k _ _ _ b false _ HF.out).mono ?_); rintro e w15 ⟨rfl, hb⟩; have HBY := Aside0.mk (below_step (below_set (below_set (below_set HBX.out HGB.out) HGB.out) HGB.out) hb); clear hb))
      (first | go_end0 | ((try simp only [Exit.inBlock, Exit.then]); refine bodyPost_ret (results_none rfl _ _ _) rfl ?_))
      exact ⟨rfl, v, blk_below BK.out HBY.out, Kd.R_below HO.out HBY.out, below_step HB.out HBY.out⟩
     | true =>
      subst hfe
      have ht := HBB.out
      go_wp2_with (first | ((with_reducible refine gate_dst (N := 8) rfl ?_); refine box_event ?hg (N := 8) ?hd (cs := #[.int .i64 0, .int .i64 0, .int .i64 0]) (t := 26) ?hr ?_; (case hd => rfl); (case hg => rfl); (case hr => first | (go_simp; done) | (go_simp; rfl)); intro gb hg w12 hbox hb; have hcz0 : w12.cell? ⟨gb, 0, none⟩ = some (.int .i64 0) := (blk_cell hbox 0).trans rfl; have hcz1 : w12.cell? ⟨gb, 1, none⟩ = some (.int .i64 0) := (blk_cell hbox 1).trans rfl; have hcz2 : w12.cell? ⟨gb, 2, none⟩ = some (.int .i64 0) := (blk_cell hbox 2).trans rfl; have hfz0 := blk_frozen hbox 0; have hfz1 := blk_frozen hbox 1; have hfz2 := blk_frozen hbox 2; have HGB := Aside0.mk (show wr.heap.size ≤ gb by rw [hg]; exact Nat.le_refl _); have HBX := Aside0.mk hb; clear hb hbox hg) | (go_at_call 53; (with_reducible refine (spec_pzFits.calls k _ _ _ b true _ HF.out).mono ?_); rintro e w15 ⟨rfl, hb⟩; have HBY := Aside0.mk (below_step (below_set (below_set (below_set HBX.out HGB.out) HGB.out) HGB.out) hb); clear hb))
      go_roundg (gk - 1)
      case measure => have := HJ.out; omega
      case rel =>
       have hnx : Fn.anyO (spec_pzLook.bad k b) (l0.drop (j + 1)) = some t := by
        rcases HBB.out with ⟨e, _⟩ | ⟨_, h⟩
        · cases e
        exact h
       exact ⟨j + 1, by go_num, ⟨by have := HJ.out; omega⟩, ⟨hnx⟩, ⟨blk_below BK.out HBY.out⟩, ⟨Kd.R_below HO.out HBY.out⟩, ⟨below_step HB.out HBY.out⟩⟩
   have d1 : decide ((j : Int) < (l0.length : Int)) = false := decide_eq_false (by omega)
   have d2 : decide (j < l0.length) = false := decide_eq_false c
   have ht : t = false := by
    have h := HA.out
    rw [List.drop_eq_nil_of_le (by omega)] at h
    exact (Option.some.inj h).symm
   subst ht
   have hcell := blk_cell BK.out 0
   have hfz := blk_frozen BK.out 0
   go_wp2_with (first | ((with_reducible refine gate_builtin (b := .append) (xs := #[.tmp 37, .tmp 39]) rfl ?_); at_builtin; refine Kd.R_append Kd.string (w0 := w0) w0.heap.size rfl (.tmp 37) (.tmp 39) 53 9 (.string ByteArray.empty) 16 rfl Tryd.underlying53 info9 rfl (by decide) (by omega) v out b [.string b] (fun k => k ≠ g) (fun _ => False) rfl rfl ?aP (fun _ hk => hk.elim) ?aF ?aO ?aB ?aS ?aL ?_; (case aP => exact rfl); (case aF => exact fun k hk he => by have := blk_lt BK.out; omega); (case aO => exact HO.out); (case aB => exact HB.out); (case aS => exact HB.out.size); (case aL => have := HL.out; omega); intro v1 w4 ho hb hg hat; obtain ⟨Av, cv, rfl⟩ := Kd.R_slice ho; have e_ : (out ++ [b]).length = out.length + 1 := (by simp); rw [e_] at ho ⊢; clear e_; have HO3 := Aside0.mk ho; have HB3 := Aside0.mk hb; have BK3 := Aside0.mk (blk_grown BK.out hg (fun he => HO.out.1 _ he.symm rfl)); have hcell3 := blk_cell BK3.out 0; have hfz3 := blk_frozen BK3.out 0; clear ho hb hg hat))
   (first | go_end0 | ((try simp only [Exit.inBlock, Exit.then]); refine bodyPost_ret (results_none rfl _ _ _) rfl ?_))
   exact ⟨rfl, _, blk_put BK3.out 0 _ rfl, Kd.R_far HO3.out (fun k hk => hk) _, below_set HB3.out HG.out⟩
 | succ d ih =>
  intro b v out r w hd hb hk ho h
  have HB := Aside0.mk hb
  have BK := Aside0.mk hk
  have HO := Aside0.mk ho
  have IH := Aside0.mk ih
  have H := Aside0.mk (show spec_pzLook.dig (spec_pzLook.f k l0 d) k b (6 - 0) ((0 : Nat) : Int) out = some r from h)
  have c1 : decide ((b.size : Int) < 4) = true := decide_eq_true (by omega)
  have c2 : decide (b.size < 4) = true := decide_eq_true (by omega)
  have HD := Aside0.mk hd
  clear hb hk ho h ih hd
  go_enter Tryd.func86, Tryd.ntmps86
  go_wp2
  go_loopg [6] 7 (fun kq v6 w' => ∃ (i : Nat) (o : List ByteArray) (v : Value), v6 = .int .i64 (i : Int) ∧ Aside0 (i + kq = 7) ∧ Aside0 (spec_pzLook.dig (spec_pzLook.f k l0 d) k b (6 - i) (i : Int) o = some r) ∧ Aside0 (w'.heap[g]? = some (.cells #[v] 53 (0, 0))) ∧ Aside0 (Kd.R Kd.string 9 w' w0.heap.size (fun k => k ≠ g) v o) ∧ Aside0 (Below w0.heap.size w0 w'))
  case atStart => exact ⟨0, out, v, rfl, ⟨by omega⟩, H, BK, HO, HB⟩
  case round =>
   clear H BK HO HB
   obtain ⟨i, o, v, rfl, HI, HA, BK, HO, HB⟩ := hrel
   by_cases c : i < 6
   · have d1 : decide ((i : Int) ≤ 5) = true := decide_eq_true (by omega)
     have d2 : decide (i ≤ 5) = true := decide_eq_true (by omega)
     have h := HA.out
     rw [show 6 - i = (6 - (i + 1)) + 1 by omega] at h
     unfold spec_pzLook.dig at h
     obtain ⟨s, hs, h⟩ := Option.bind_eq_some_iff.mp h
     by_cases hz : b.size + s.size ≤ 4
     rotate_left
     · exact none_ (if_neg hz) h
     rw [if_pos hz] at h
     by_cases hz1 : s.size = 1
     rotate_left
     · exact none_ (if_neg hz1) h
     rw [if_pos hz1] at h
     obtain ⟨o2, ho2, h⟩ := Option.bind_eq_some_iff.mp h
     have HS := Aside0.mk hs
     have HF := Aside0.mk ho2
     have HA2 := Aside0.mk (show spec_pzLook.dig (spec_pzLook.f k l0 d) k b (6 - (i + 1)) ((i + 1 : Nat) : Int) o2 = some r from h)
     have HZ := Aside0.mk (show (b ++ s).size + d = 4 by have := HD.out; rw [ByteArray.size_append]; omega)
     have hsz : b.size + s.size ≤ 9223372036854775807 := by omega
     have z0 := eq_true hsz
     have z1 : decide (b.size + s.size ≤ 9223372036854775807) = true := decide_eq_true hsz
     have z2 : (9223372036854775807 < b.size + s.size) = False := eq_false (Nat.not_lt.2 hsz)
     have HC := Aside0.mk c
     clear HA h hs hz hz1 ho2 hsz c
     go_wp2_with (first | (go_at_call 112; (with_reducible refine (spec_l1Num.calls k (i : Int) s _ HS.out).mono ?_); rintro e w15 ⟨rfl, hb⟩; have HB2 := Aside0.mk (below_step HB.out hb); have BK2 := Aside0.mk (blk_below BK.out hb); have HO2 := Aside0.mk (Kd.R_below HO.out hb); clear hb) | (go_at_call 86; (with_reducible refine (IH.out (b ++ s) v o o2 _ HZ.out HB2.out BK2.out HO2.out HF.out).mono ?_); rintro e w16 ⟨rfl, v2, hk, ho, hb⟩; have HB3 := Aside0.mk hb; have BK3 := Aside0.mk hk; have HO3 := Aside0.mk ho; clear hb hk ho))
     go_roundg (gk - 1)
     case measure => have := HI.out; have := HC.out; omega
     case rel => exact ⟨i + 1, o2, v2, spec_pzLook.succv_ i (by have := HC.out; omega), ⟨by have := HI.out; have := HC.out; omega⟩, HA2, BK3, HO3, HB3⟩
   have d1 : decide ((i : Int) ≤ 5) = false := decide_eq_false (by omega)
   have d2 : decide (i ≤ 5) = false := decide_eq_false (by omega)
   have hr : o = r := by
    have h := HA.out
    rw [show 6 - i = 0 by omega] at h
    exact Option.some.inj h
   subst hr
   go_wp2
   (first | go_end0 | ((try simp only [Exit.inBlock, Exit.then]); refine bodyPost_ret (results_none rfl _ _ _) rfl ?_))
   exact ⟨rfl, v, BK.out, HO.out, HB.out⟩
set_option maxHeartbeats 8000000 in
set_option maxRecDepth 100000 in
theorem spec_pzAll.calls (k : Nat) (A0 : Option Addr) (c0 : Nat) (l0 : List (S26)) (r : List ByteArray) (w : World) (hr0 : Kd.C k26 w A0 l0.length l0) (hc0 : l0.length ≤ c0) (h : spec_pzAll.f k l0 = some r) :
 Calls Tryd.prog 59 #[.slice A0 l0.length c0] w fun e w' => ∃ v0_ : Value, e = .returned (v0_) ∧ Kd.R Kd.string 9 w' w.heap.size (fun _ => True) v0_ r ∧ Below w.heap.size w w' := by
 have HR0 := Aside0.mk hr0
 have HC0 := Aside0.mk hc0
 have H := Aside0.mk (show spec_pzLook.f k l0 4 ⟨#[]⟩ [] = some r from h)
 clear hr0 hc0 h
 go_enter Tryd.func59, Tryd.ntmps59
 go_wp2_with (first | ((with_reducible refine gate_dst (N := 3) rfl ?_); refine box_event ?hg (N := 3) ?hd (cs := #[.slice none 0 0]) (t := 53) ?hr ?_; (case hd => rfl); (case hg => rfl); (case hr => first | (go_simp; done) | (go_simp; rfl)); intro gb hg w12 hbox hb; have HGB := Aside0.mk (show w.heap.size ≤ gb by rw [hg]; exact Nat.le_refl _); have BK := Aside0.mk hbox; have HB := Aside0.mk hb; clear hb hbox hg) | (go_at_call 86; (with_reducible refine (spec_pzLook.calls k A0 c0 l0 w gb HR0.out HC0.out HGB.out 4 ⟨#[]⟩ (.slice none 0 0) [] r _ rfl HB.out BK.out (Kd.R_nil _ _ _ _ _) H.out).mono ?_); rintro e w16 ⟨rfl, v2, hk, ho, hb⟩; have HB3 := Aside0.mk hb; have hcell := blk_cell hk 0; have HO3 := Aside0.mk ho; clear hb hk ho))
 go_ret
 exact ⟨_, rfl, Kd.R_mono HO3.out (fun _ _ => trivial), HB3.out⟩

/-! ### spec_BestClue: function 31 -/
mutual
def spec_BestClue.j0 : Nat → Bool → List (S26) → Option (Int × Bool)
 | 0, _, _ => none
 | k + 1, x16, x155000 => if x16 = true then (some (0, false)) else (spec_BestClue.l0 k 0 0 (x155000.length : Int) 0 x155000)
def spec_BestClue.l0 : Nat → Int → Int → Int → Int → List (S26) → Option (Int × Bool)
 | 0, _, _, _, _, _ => none
 | k + 1, x4, x5, x19, x20, x155000 => if x20 < x19 then (if 0 ≤ x20 then (if x20 ≤ (wrap64 (x20 + 1)) then (if (wrap64 (x20 + 1)) ≤ (x155000.length : Int) then ((spec_pzAll.f k ((x155000.take ((wrap64 (x20 + 1)) : Int).toNat).drop (x20 : Int).toNat)).bind fun t160 => (if x20 = 0 then (spec_BestClue.l0 k x20 (t160.length : Int) x19 (wrap64 (x20 + 1)) x155000) else (if (t160.length : Int) < x5 then (spec_BestClue.l0 k x20 (t160.length : Int) x19 (wrap64 (x20 + 1)) x155000) else (spec_BestClue.l0 k x4 x5 x19 (wrap64 (x20 + 1)) x155000)))) else (none)) else (none)) else (none)) else (some (x4, true))
end
def spec_BestClue.f (k : Nat) (l0_0 : List (S26)) : Option (Int × Bool) := (spec_pzGood.f k l0_0).bind fun t155 => (if t155 = true then (spec_BestClue.j0 k ((l0_0.length : Int) == 0) l0_0) else (spec_BestClue.j0 k true l0_0))
theorem spec_BestClue.mono_l : ∀ k, (∀ y0 y1, LeO (spec_BestClue.j0 k y0 y1) (spec_BestClue.j0 (k + 1) y0 y1)) ∧ (∀ y0 y1 y2 y3 y4, LeO (spec_BestClue.l0 k y0 y1 y2 y3 y4) (spec_BestClue.l0 (k + 1) y0 y1 y2 y3 y4))
 | 0 => ⟨fun _ _ r h => by simp [spec_BestClue.j0] at h, fun _ _ _ _ _ r h => by simp [spec_BestClue.l0] at h⟩
 | k + 1 => by
  obtain ⟨ih0, ih1⟩ := spec_BestClue.mono_l k
  refine ⟨?_, ?_⟩
  · intro y0 y1
    unfold spec_BestClue.j0
    repeat' first
    | (with_reducible exact ih0 _ _)
    | (with_reducible exact ih1 _ _ _ _ _)
    | (with_reducible exact spec_pzAll.mono _ _)
    | (with_reducible exact spec_pzGood.mono _ _)
    | (with_reducible exact LeO.refl _)
    | (with_reducible exact LeO.none _)
    | (with_reducible refine LeO.ite ?_ ?_)
    | (with_reducible refine LeO.bind ?_ (fun _ => ?_))
    | exact ih0 _ _
    | exact ih1 _ _ _ _ _
    | exact spec_pzAll.mono _ _
    | exact spec_pzGood.mono _ _
    | exact LeO.none _
    | refine LeO.ite ?_ ?_
    | refine LeO.bind ?_ (fun _ => ?_)
  intro y0 y1 y2 y3 y4
  unfold spec_BestClue.l0
  repeat' first
  | (with_reducible exact ih0 _ _)
  | (with_reducible exact ih1 _ _ _ _ _)
  | (with_reducible exact spec_pzAll.mono _ _)
  | (with_reducible exact spec_pzGood.mono _ _)
  | (with_reducible exact LeO.refl _)
  | (with_reducible exact LeO.none _)
  | (with_reducible refine LeO.ite ?_ ?_)
  | (with_reducible refine LeO.bind ?_ (fun _ => ?_))
  | exact ih0 _ _
  | exact ih1 _ _ _ _ _
  | exact spec_pzAll.mono _ _
  | exact spec_pzGood.mono _ _
  | exact LeO.none _
  | refine LeO.ite ?_ ?_
  | refine LeO.bind ?_ (fun _ => ?_)
theorem spec_BestClue.mono : ∀ a0 k, LeO (spec_BestClue.f k a0) (spec_BestClue.f (k + 1) a0) := by
 intro a0 k
 obtain ⟨ih0, ih1⟩ := spec_BestClue.mono_l k
 unfold spec_BestClue.f
 repeat' first
  | (with_reducible exact ih0 _ _)
  | (with_reducible exact ih1 _ _ _ _ _)
  | (with_reducible exact spec_pzAll.mono _ _)
  | (with_reducible exact spec_pzGood.mono _ _)
  | (with_reducible exact LeO.refl _)
  | (with_reducible exact LeO.none _)
  | (with_reducible refine LeO.ite ?_ ?_)
  | (with_reducible refine LeO.bind ?_ (fun _ => ?_))
  | exact ih0 _ _
  | exact ih1 _ _ _ _ _
  | exact spec_pzAll.mono _ _
  | exact spec_pzGood.mono _ _
  | exact LeO.none _
  | refine LeO.ite ?_ ?_
  | refine LeO.bind ?_ (fun _ => ?_)
set_option maxHeartbeats 8000000 in
set_option maxRecDepth 100000 in
theorem spec_BestClue.calls (k : Nat) (A0_0 : Option Addr) (c0_0 : Nat) (l0_0 : List (S26)) (r1 : Int) (r2 : Bool) (w : World) (hr0_0 : Kd.C k26 w A0_0 l0_0.length l0_0) (hc0_0 : l0_0.length ≤ c0_0) (h : spec_BestClue.f k l0_0 = some (r1, r2)) :
 Calls Tryd.prog 31 #[.agg #[.slice A0_0 l0_0.length c0_0]] w fun e w' => e = .returned (.tuple #[.int .i64 r1, .bool r2]) ∧ Below w.heap.size w w' := by
 have hu37 := Tryd.underlying37
 have HR0_0 := Aside0.mk hr0_0
 have HC0_0 := Aside0.mk hc0_0
 clear hr0_0 hc0_0
 have HB := Aside0.mk (Below.refl w.heap.size w)
 have H : ((spec_pzGood.f k l0_0).bind fun t155 => (if t155 = true then (spec_BestClue.j0 k ((l0_0.length : Int) == 0) l0_0) else (spec_BestClue.j0 k true l0_0))) = some (r1, r2) := h
 clear h
 have HC2 := Aside0.mk H
 clear H
 go_enter Tryd.func31, Tryd.ntmps31
 go_upto_region 1 with (first | ((with_reducible refine gate_dst (N := 1) rfl ?_); (try (refine gate_guard (by rfl) ?_; dsimp only)); refine box_event ?hg (N := 1) ?hd (cs := #[.slice A0_0 l0_0.length c0_0]) (t := 37) ?hr ?_; (case hd => rfl); (case hg => rfl); (case hr => first | (go_simp; done) | (go_simp; rfl)); intro gb154 hg w3 hbox hb; have n0_ := Aside0.mk (below_step z4_1_ hb); have n1_ := Aside0.mk (hbox); have n2_ := Aside0.mk ((by rw [hg]; exact (below_size z4_1_) : w.heap.size ≤ gb154)); have n3_ := Aside0.mk ((by rw [hg]; exact (below_size z4_1_) : w.heap.size ≤ gb154)); clear HB; have HB := n0_; have BK154 := n1_; have GW154 := n2_; have GE154 := n3_; clear n0_ n1_ n2_ n3_; clear hb hbox hg))
 (try simp only [Act.put, List.setIfInBounds_toArray, List.set_cons_zero, List.set_cons_succ])
 go_cut [16] (fun v16 wc => ∃ (kq : Nat) (x16_1 : Bool), v16 = .bool x16_1 ∧ Aside0 (spec_BestClue.j0 kq x16_1 l0_0 = some (r1, r2)) ∧ Aside0 (kq ≤ k) ∧ Aside0 (wc.heap[gb154]? = some (.cells #[(.slice A0_0 l0_0.length c0_0)] 37 (0, 0))) ∧ Aside0 (Below w.heap.size w wc))
 case first =>
  have H := HC2.out
  clear HC2
  replace H := Option.bind_eq_some_iff.mp H
  obtain ⟨t155, A40, H⟩ := H
  have A4 := Aside0.mk A40
  clear A40
  by_cases c5 : t155 = true
  · subst c5
    have H1 : (spec_BestClue.j0 k ((l0_0.length : Int) == 0) l0_0) = some (r1, r2) := by rw [if_pos rfl] at H; exact H
    clear H
    have H := H1
    clear H1
    have H' := Aside0.mk H
    clear H
    have hcz6_0 : w3.cell? ⟨gb154, 0, none⟩ = some (.slice A0_0 l0_0.length c0_0) := (blk_cell BK154.out 0).trans rfl
    have hfz6_0 := blk_frozen BK154.out 0
    go_wp2_with (first | ((with_reducible refine gate_callee (f := 58) rfl ?_); refine goesL_ (some 9) rfl rfl Tryd.func58 (by kernel_rfl) rfl #[.agg #[.slice A0_0 l0_0.length c0_0]] rfl z4_0_ ?_; (with_reducible refine (spec_pzGood.calls k _ _ l0_0 true _ ?side1 ?side2 A4.out).mono ?_); (case side1 => repeat (first | exact (Kd.C_below HR0_0.out HB.out) | (with_reducible refine Kd.C_alloc ?_ _) | (with_reducible refine Kd.C_drewN ?_ _) | (with_reducible refine Kd.C_drew ?_))); (case side2 => exact HC0_0.out); rintro e w7 ⟨rfl, hb⟩; refine ⟨_, rfl, ?_⟩; have n0_ := Aside0.mk (blk_below (g := gb154) (o := .cells #[.slice A0_0 l0_0.length c0_0] 37 (0, 0)) z4_4_ hb); have n1_ := Aside0.mk (below_step z4_2_ hb); clear BK154; clear HB; have BK154 := n0_; have HB := n1_; clear n0_ n1_; (try clear hb); (try clear hb2); (try clear hk); (try clear hi); have hcz8_0 : w7.cell? ⟨gb154, 0, none⟩ = some (.slice A0_0 l0_0.length c0_0) := (blk_cell BK154.out 0).trans rfl; have hfz8_0 := blk_frozen BK154.out 0))
    go_meet
    case rel => exact ⟨_, (((l0_0.length : Int) == 0)), z4_3_, H', ⟨by first | omega | exact Nat.le_refl _⟩, ⟨by (with_reducible repeat (first | refine blk_drewN ?_ _ | refine blk_drew ?_ | refine blk_alloc ?_ _)); exact BK154.out⟩, ⟨by repeat (first | (with_reducible first | exact HB.out | apply below_alloc | apply pw_below_drewN | apply below_drew1 | refine below_set ?_ GE154.out) | exact HB.out)⟩⟩
  replace c5 := Bool.eq_false_iff.mpr c5
  subst c5
  have H1 : (spec_BestClue.j0 k true l0_0) = some (r1, r2) := by rw [if_neg (show ¬ (false = true) by decide)] at H; exact H
  clear H
  have H := H1
  clear H1
  have H' := Aside0.mk H
  clear H
  have hcz9_0 : w3.cell? ⟨gb154, 0, none⟩ = some (.slice A0_0 l0_0.length c0_0) := (blk_cell BK154.out 0).trans rfl
  have hfz9_0 := blk_frozen BK154.out 0
  go_wp2_with (first | ((with_reducible refine gate_callee (f := 58) rfl ?_); refine goesL_ (some 9) rfl rfl Tryd.func58 (by kernel_rfl) rfl #[.agg #[.slice A0_0 l0_0.length c0_0]] rfl z4_0_ ?_; (with_reducible refine (spec_pzGood.calls k _ _ l0_0 false _ ?side1 ?side2 A4.out).mono ?_); (case side1 => repeat (first | exact (Kd.C_below HR0_0.out HB.out) | (with_reducible refine Kd.C_alloc ?_ _) | (with_reducible refine Kd.C_drewN ?_ _) | (with_reducible refine Kd.C_drew ?_))); (case side2 => exact HC0_0.out); rintro e w10 ⟨rfl, hb⟩; refine ⟨_, rfl, ?_⟩; have n0_ := Aside0.mk (blk_below (g := gb154) (o := .cells #[.slice A0_0 l0_0.length c0_0] 37 (0, 0)) z4_4_ hb); have n1_ := Aside0.mk (below_step z4_2_ hb); clear BK154; clear HB; have BK154 := n0_; have HB := n1_; clear n0_ n1_; (try clear hb); (try clear hb2); (try clear hk); (try clear hi)))
  go_meet
  case rel => exact ⟨_, (true), z4_3_, H', ⟨by first | omega | exact Nat.le_refl _⟩, ⟨by (with_reducible repeat (first | refine blk_drewN ?_ _ | refine blk_drew ?_ | refine blk_alloc ?_ _)); exact BK154.out⟩, ⟨by repeat (first | (with_reducible first | exact HB.out | apply below_alloc | apply pw_below_drewN | apply below_drew1 | refine below_set ?_ GE154.out) | exact HB.out)⟩⟩
 case rest =>
  clear HC2
  (try clear p2);(try clear c3);(try clear c5);(try clear hcz6_0);(try clear hcz8_0);(try clear hcz9_0);(try clear hfz6_0);(try clear hfz8_0);(try clear hfz9_0)
  obtain ⟨kq, x16_1, rfl, HA, HJ1, BK154, HB⟩ := hcut
  cases kq with
  | zero => exact absurd HA.out (by simp [spec_BestClue.j0])
  | succ kj1 =>
   have H := HA.out
   clear HA
   simp only [spec_BestClue.j0] at H
   by_cases c11 : x16_1 = true
   · subst c11
     have H1 : (some (0, false)) = some (r1, r2) := by rw [if_pos rfl] at H; exact H
     clear H
     have H := H1
     clear H1
     simp only [Option.some.injEq, Prod.mk.injEq] at H
     obtain ⟨rfl, rfl⟩ := H
     go_wp2
     go_ret2
     exact ⟨by first | rfl | (simp [errW_none, errW_some] <;> rfl) | (simp [*, errW_none, errW_some] <;> rfl), by repeat (first | (with_reducible first | exact HB.out | apply below_alloc | apply pw_below_drewN | apply below_drew1 | refine below_set ?_ GE154.out) | exact HB.out)⟩
   replace c11 := Bool.eq_false_iff.mpr c11
   subst c11
   have H1 : (spec_BestClue.l0 kj1 0 0 (l0_0.length : Int) 0 l0_0) = some (r1, r2) := by rw [if_neg (show ¬ (false = true) by decide)] at H; exact H
   clear H
   have H := H1
   clear H1
   have H' := Aside0.mk H
   clear H
   have hcz12_0 : wc.cell? ⟨gb154, 0, none⟩ = some (.slice A0_0 l0_0.length c0_0) := (blk_cell BK154.out 0).trans rfl
   have hfz12_0 := blk_frozen BK154.out 0
   go_wp2
   go_loopg [4, 5, 20] kj1 (fun kq v4 v5 v20 w' => ∃ (x4_2 : Int) (x5_2 : Int) (x20_2 : Int), v4 = .int .i64 x4_2 ∧ v5 = .int .i64 x5_2 ∧ v20 = .int .i64 x20_2 ∧ Aside0 (spec_BestClue.l0 kq x4_2 x5_2 (l0_0.length : Int) x20_2 l0_0 = some (r1, r2)) ∧ Aside0 (kq ≤ kj1) ∧ Aside0 (w'.heap[gb154]? = some (.cells #[(.slice A0_0 l0_0.length c0_0)] 37 (0, 0))) ∧ Aside0 (Below w.heap.size w w'))
   case atStart => exact ⟨(0), (0), (0), z4_3_, z4_3_, z4_3_, H', ⟨Nat.le_refl _⟩, ⟨by (with_reducible repeat (first | refine blk_drewN ?_ _ | refine blk_drew ?_ | refine blk_alloc ?_ _)); exact BK154.out⟩, ⟨by repeat (first | (with_reducible first | exact HB.out | apply below_alloc | apply pw_below_drewN | apply below_drew1 | refine below_set ?_ GE154.out) | exact HB.out)⟩⟩
   case round =>
    clear H'
    (try clear c1);(try clear p2);(try clear c3);(try clear c5);(try clear c11);(try clear hcz12_0);(try clear hcz6_0);(try clear hcz8_0);(try clear hcz9_0);(try clear hfz12_0);(try clear hfz6_0);(try clear hfz8_0);(try clear hfz9_0);(try clear p2)
    obtain ⟨x4_2, x5_2, x20_2, rfl, rfl, rfl, HA, HK2, BK154, HB⟩ := hrel
    cases gk with
    | zero => exact absurd HA.out (by simp [spec_BestClue.l0])
    | succ k2 =>
     have H := HA.out
     clear HA
     simp only [spec_BestClue.l0] at H
     by_cases c13 : x20_2 < (l0_0.length : Int)
     · rw [if_pos c13] at H
       have c13b0 : decide (x20_2 < (l0_0.length : Int)) = true := decide_eq_true c13
       clear c13
       by_cases c14 : 0 ≤ x20_2
       rotate_left
       · exact none_ (if_neg c14) H
       rw [if_pos c14] at H
       have c14b0 := eq_true c14
       have c14b1 : decide (0 ≤ x20_2) = true := decide_eq_true c14
       clear c14
       by_cases c15 : x20_2 ≤ (wrap64 (x20_2 + 1))
       rotate_left
       · exact none_ (if_neg c15) H
       rw [if_pos c15] at H
       have c15b0 := eq_true c15
       have c15b1 : decide (x20_2 ≤ (wrap64 (x20_2 + 1))) = true := decide_eq_true c15
       by_cases c16 : (wrap64 (x20_2 + 1)) ≤ (l0_0.length : Int)
       rotate_left
       · exact none_ (if_neg c16) H
       rw [if_pos c16] at H
       have c16b0 := eq_true c16
       have c16b1 : decide ((wrap64 (x20_2 + 1)) ≤ (l0_0.length : Int)) = true := decide_eq_true c16
       obtain ⟨y156, hy156⟩ : ∃ y_ : List (S26), y_ = ((l0_0.take ((wrap64 (x20_2 + 1)) : Int).toNat).drop (x20_2 : Int).toNat) := ⟨_, rfl⟩
       replace H : ((spec_pzAll.f k2 y156).bind fun t160 => (if x20_2 = 0 then (spec_BestClue.l0 k2 x20_2 (t160.length : Int) (l0_0.length : Int) (wrap64 (x20_2 + 1)) l0_0) else (if (t160.length : Int) < x5_2 then (spec_BestClue.l0 k2 x20_2 (t160.length : Int) (l0_0.length : Int) (wrap64 (x20_2 + 1)) l0_0) else (spec_BestClue.l0 k2 x4_2 x5_2 (l0_0.length : Int) (wrap64 (x20_2 + 1)) l0_0)))) = some (r1, r2) := by first | (rw [hy156]; with_reducible exact H) | (have H2_ := (Option.bind_some _ _).symm.trans H; rw [hy156]; with_reducible exact H2_) | (have H2_ := (Option.bind_some _ _).symm.trans H; with_reducible exact H2_) | with_reducible exact H | (rw [hy156]; exact H) | exact H
       have Ny156 := Aside0.mk hy156
       clear hy156
       replace H := Option.bind_eq_some_iff.mp H
       obtain ⟨t160, A170, H⟩ := H
       have A17 := Aside0.mk A170
       clear A170
       by_cases c18 : x20_2 = 0
       · rw [if_pos c18] at H
         have c18b0 : (x20_2 == 0) = true := beq_iff_eq.mpr c18
         have c18b1 : (x20_2 != 0) = false := bne_eq_false_iff_eq.mpr c18
         clear c18
         have H' := Aside0.mk H
         clear H
         have hcz19_0 : wr.cell? ⟨gb154, 0, none⟩ = some (.slice A0_0 l0_0.length c0_0) := (blk_cell BK154.out 0).trans rfl
         have hfz19_0 := blk_frozen BK154.out 0
         have q20 : ((wrap64 (x20_2 + 1)) : Int) ≤ ((l0_0.length : Int) : Int) := of_decide_eq_true z4_5_
         obtain ⟨i020, hi020, _, hsz20, _⟩ := info_parts info26
         have hroom20 : l0_0.length ≤ c0_0 := HC0_0.out
         have hC20 : Kd.C k26 _ A0_0 l0_0.length l0_0 := HR0_0.out
         have ql20 : (x20_2 : Int) ≤ ((wrap64 (x20_2 + 1)) : Int) := of_decide_eq_true z4_5_
         have q020 : (0 : Int) ≤ (x20_2 : Int) := of_decide_eq_true z4_5_
         have hcut20 := cut_mid (P := Tryd.prog) 35 26 .i64 .i64 Tryd.underlying35 hi020 3 hsz20 A0_0 l0_0.length c0_0 x20_2 (wrap64 (x20_2 + 1)) q020 ql20 q20 hroom20
         have hr20 := Kd.C_mid (lo := (x20_2 : Int).toNat) (hi := ((wrap64 (x20_2 + 1)) : Int).toNat) (c := c0_0) hC20 (by omega) (by omega) hroom20
         obtain ⟨A20, hA20⟩ : ∃ A1, A1 = (if c0_0 = (x20_2 : Int).toNat then A0_0 else (A0_0 : Option Addr).map (·.add ((x20_2 : Int).toNat * 3))) := ⟨_, rfl⟩
         obtain ⟨c20, hc20⟩ : ∃ c1, c1 = c0_0 - (x20_2 : Int).toNat := ⟨_, rfl⟩
         have hy20 : y156.length = ((wrap64 (x20_2 + 1)) : Int).toNat - (x20_2 : Int).toNat := (by rw [Ny156.out, List.length_drop, List.length_take] <;> omega)
         rw [show ((l0_0).take ((wrap64 (x20_2 + 1)) : Int).toNat).drop (x20_2 : Int).toNat = y156 from Ny156.out.symm] at hr20
         replace hr20 : Kd.C k26 _ A20 y156.length y156 := (by rw [hA20]; exact hr20)
         rw [← hy20, ← hA20, ← hc20] at hcut20
         have HR159 := Aside0.mk hr20
         have HC159 := Aside0.mk (show y156.length ≤ c20 from by rw [hy20, hc20]; exact Nat.sub_le_sub_right (Nat.le_trans (by omega) hroom20) _)
         clear hr20 hC20 hroom20 hi020 hsz20 hc20
         have KY20 := Aside0.mk hy20
         have KA20 := Aside0.mk hA20
         clear hy20 hA20
         replace q20 := eq_true q20
         go_wp2_with (first | ((with_reducible refine gate_callee (f := 59) rfl ?_); refine goesL_ (some 29) rfl rfl Tryd.func59 (by kernel_rfl) rfl #[.slice A20 y156.length c20] rfl z4_0_ ?_; (with_reducible refine (spec_pzAll.calls k2 _ _ y156 t160 _ ?side1 ?side2 A17.out).mono ?_); (case side1 => repeat (first | exact (Kd.C_below HR159.out HB.out) | (with_reducible refine Kd.C_alloc ?_ _) | (with_reducible refine Kd.C_drewN ?_ _) | (with_reducible refine Kd.C_drew ?_))); (case side2 => exact HC159.out); rintro e w21 ⟨v161, rfl, ho0, hb⟩; refine ⟨_, rfl, ?_⟩; have n0_ := Aside0.mk (Kd.R_lower ho0 (below_size z4_2_)); have n1_ := Aside0.mk (blk_below (g := gb154) (o := .cells #[.slice A0_0 l0_0.length c0_0] 37 (0, 0)) z4_4_ hb); have n2_ := Aside0.mk (below_step z4_2_ hb); clear BK154; clear HB; have HO162 := n0_; have BK154 := n1_; have HB := n2_; clear n0_ n1_ n2_; (try clear hb); (try clear hb2); (try clear hk); (try clear hi); (try clear ho0); obtain ⟨Ao22, co22, eo22⟩ := Kd.R_slice HO162.out; subst eo22))
         go_roundg k2
         case measure => have := HJ1.out; have := HK2.out; omega
         case rel => exact ⟨(x20_2), ((t160.length : Int)), (wrap64 (x20_2 + 1)), z4_3_, z4_3_, z4_3_, H', ⟨by have := HJ1.out; have := HK2.out; omega⟩, ⟨by (with_reducible repeat (first | refine blk_drewN ?_ _ | refine blk_drew ?_ | refine blk_alloc ?_ _)); exact BK154.out⟩, ⟨by repeat (first | (with_reducible first | exact HB.out | apply below_alloc | apply pw_below_drewN | apply below_drew1 | refine below_set ?_ GE154.out) | exact HB.out)⟩⟩
       rw [if_neg c18] at H
       have c18b0 : (x20_2 == 0) = false := beq_eq_false_iff_ne.mpr c18
       have c18b1 : (x20_2 != 0) = true := bne_iff_ne.mpr c18
       by_cases c23 : (t160.length : Int) < x5_2
       · rw [if_pos c23] at H
         have c23b0 : decide ((t160.length : Int) < x5_2) = true := decide_eq_true c23
         clear c23
         have H' := Aside0.mk H
         clear H
         have hcz24_0 : wr.cell? ⟨gb154, 0, none⟩ = some (.slice A0_0 l0_0.length c0_0) := (blk_cell BK154.out 0).trans rfl
         have hfz24_0 := blk_frozen BK154.out 0
         have q25 : ((wrap64 (x20_2 + 1)) : Int) ≤ ((l0_0.length : Int) : Int) := of_decide_eq_true z4_5_
         obtain ⟨i025, hi025, _, hsz25, _⟩ := info_parts info26
         have hroom25 : l0_0.length ≤ c0_0 := HC0_0.out
         have hC25 : Kd.C k26 _ A0_0 l0_0.length l0_0 := HR0_0.out
         have ql25 : (x20_2 : Int) ≤ ((wrap64 (x20_2 + 1)) : Int) := of_decide_eq_true z4_5_
         have q025 : (0 : Int) ≤ (x20_2 : Int) := of_decide_eq_true z4_5_
         have hcut25 := cut_mid (P := Tryd.prog) 35 26 .i64 .i64 Tryd.underlying35 hi025 3 hsz25 A0_0 l0_0.length c0_0 x20_2 (wrap64 (x20_2 + 1)) q025 ql25 q25 hroom25
         have hr25 := Kd.C_mid (lo := (x20_2 : Int).toNat) (hi := ((wrap64 (x20_2 + 1)) : Int).toNat) (c := c0_0) hC25 (by omega) (by omega) hroom25
         obtain ⟨A25, hA25⟩ : ∃ A1, A1 = (if c0_0 = (x20_2 : Int).toNat then A0_0 else (A0_0 : Option Addr).map (·.add ((x20_2 : Int).toNat * 3))) := ⟨_, rfl⟩
         obtain ⟨c25, hc25⟩ : ∃ c1, c1 = c0_0 - (x20_2 : Int).toNat := ⟨_, rfl⟩
         have hy25 : y156.length = ((wrap64 (x20_2 + 1)) : Int).toNat - (x20_2 : Int).toNat := (by rw [Ny156.out, List.length_drop, List.length_take] <;> omega)
         rw [show ((l0_0).take ((wrap64 (x20_2 + 1)) : Int).toNat).drop (x20_2 : Int).toNat = y156 from Ny156.out.symm] at hr25
         replace hr25 : Kd.C k26 _ A25 y156.length y156 := (by rw [hA25]; exact hr25)
         rw [← hy25, ← hA25, ← hc25] at hcut25
         have HR159 := Aside0.mk hr25
         have HC159 := Aside0.mk (show y156.length ≤ c25 from by rw [hy25, hc25]; exact Nat.sub_le_sub_right (Nat.le_trans (by omega) hroom25) _)
         clear hr25 hC25 hroom25 hi025 hsz25 hc25
         have KY25 := Aside0.mk hy25
         have KA25 := Aside0.mk hA25
         clear hy25 hA25
         replace q25 := eq_true q25
         go_wp2_with (first | ((with_reducible refine gate_callee (f := 59) rfl ?_); refine goesL_ (some 29) rfl rfl Tryd.func59 (by kernel_rfl) rfl #[.slice A25 y156.length c25] rfl z4_0_ ?_; (with_reducible refine (spec_pzAll.calls k2 _ _ y156 t160 _ ?side1 ?side2 A17.out).mono ?_); (case side1 => repeat (first | exact (Kd.C_below HR159.out HB.out) | (with_reducible refine Kd.C_alloc ?_ _) | (with_reducible refine Kd.C_drewN ?_ _) | (with_reducible refine Kd.C_drew ?_))); (case side2 => exact HC159.out); rintro e w26 ⟨v161, rfl, ho0, hb⟩; refine ⟨_, rfl, ?_⟩; have n0_ := Aside0.mk (Kd.R_lower ho0 (below_size z4_2_)); have n1_ := Aside0.mk (blk_below (g := gb154) (o := .cells #[.slice A0_0 l0_0.length c0_0] 37 (0, 0)) z4_4_ hb); have n2_ := Aside0.mk (below_step z4_2_ hb); clear BK154; clear HB; have HO162 := n0_; have BK154 := n1_; have HB := n2_; clear n0_ n1_ n2_; (try clear hb); (try clear hb2); (try clear hk); (try clear hi); (try clear ho0); obtain ⟨Ao27, co27, eo27⟩ := Kd.R_slice HO162.out; subst eo27))
         go_roundg k2
         case measure => have := HJ1.out; have := HK2.out; omega
         case rel => exact ⟨(x20_2), ((t160.length : Int)), (wrap64 (x20_2 + 1)), z4_3_, z4_3_, z4_3_, H', ⟨by have := HJ1.out; have := HK2.out; omega⟩, ⟨by (with_reducible repeat (first | refine blk_drewN ?_ _ | refine blk_drew ?_ | refine blk_alloc ?_ _)); exact BK154.out⟩, ⟨by repeat (first | (with_reducible first | exact HB.out | apply below_alloc | apply pw_below_drewN | apply below_drew1 | refine below_set ?_ GE154.out) | exact HB.out)⟩⟩
       rw [if_neg c23] at H
       have c23b0 : decide ((t160.length : Int) < x5_2) = false := decide_eq_false c23
       clear c23
       have H' := Aside0.mk H
       clear H
       have hcz28_0 : wr.cell? ⟨gb154, 0, none⟩ = some (.slice A0_0 l0_0.length c0_0) := (blk_cell BK154.out 0).trans rfl
       have hfz28_0 := blk_frozen BK154.out 0
       have q29 : ((wrap64 (x20_2 + 1)) : Int) ≤ ((l0_0.length : Int) : Int) := of_decide_eq_true z4_5_
       obtain ⟨i029, hi029, _, hsz29, _⟩ := info_parts info26
       have hroom29 : l0_0.length ≤ c0_0 := HC0_0.out
       have hC29 : Kd.C k26 _ A0_0 l0_0.length l0_0 := HR0_0.out
       have ql29 : (x20_2 : Int) ≤ ((wrap64 (x20_2 + 1)) : Int) := of_decide_eq_true z4_5_
       have q029 : (0 : Int) ≤ (x20_2 : Int) := of_decide_eq_true z4_5_
       have hcut29 := cut_mid (P := Tryd.prog) 35 26 .i64 .i64 Tryd.underlying35 hi029 3 hsz29 A0_0 l0_0.length c0_0 x20_2 (wrap64 (x20_2 + 1)) q029 ql29 q29 hroom29
       have hr29 := Kd.C_mid (lo := (x20_2 : Int).toNat) (hi := ((wrap64 (x20_2 + 1)) : Int).toNat) (c := c0_0) hC29 (by omega) (by omega) hroom29
       obtain ⟨A29, hA29⟩ : ∃ A1, A1 = (if c0_0 = (x20_2 : Int).toNat then A0_0 else (A0_0 : Option Addr).map (·.add ((x20_2 : Int).toNat * 3))) := ⟨_, rfl⟩
       obtain ⟨c29, hc29⟩ : ∃ c1, c1 = c0_0 - (x20_2 : Int).toNat := ⟨_, rfl⟩
       have hy29 : y156.length = ((wrap64 (x20_2 + 1)) : Int).toNat - (x20_2 : Int).toNat := (by rw [Ny156.out, List.length_drop, List.length_take] <;> omega)
       rw [show ((l0_0).take ((wrap64 (x20_2 + 1)) : Int).toNat).drop (x20_2 : Int).toNat = y156 from Ny156.out.symm] at hr29
       replace hr29 : Kd.C k26 _ A29 y156.length y156 := (by rw [hA29]; exact hr29)
       rw [← hy29, ← hA29, ← hc29] at hcut29
       have HR159 := Aside0.mk hr29
       have HC159 := Aside0.mk (show y156.length ≤ c29 from by rw [hy29, hc29]; exact Nat.sub_le_sub_right (Nat.le_trans (by omega) hroom29) _)
       clear hr29 hC29 hroom29 hi029 hsz29 hc29
       have KY29 := Aside0.mk hy29
       have KA29 := Aside0.mk hA29
       clear hy29 hA29
       replace q29 := eq_true q29
       go_wp2_with (first | ((with_reducible refine gate_callee (f := 59) rfl ?_); refine goesL_ (some 29) rfl rfl Tryd.func59 (by kernel_rfl) rfl #[.slice A29 y156.length c29] rfl z4_0_ ?_; (with_reducible refine (spec_pzAll.calls k2 _ _ y156 t160 _ ?side1 ?side2 A17.out).mono ?_); (case side1 => repeat (first | exact (Kd.C_below HR159.out HB.out) | (with_reducible refine Kd.C_alloc ?_ _) | (with_reducible refine Kd.C_drewN ?_ _) | (with_reducible refine Kd.C_drew ?_))); (case side2 => exact HC159.out); rintro e w30 ⟨v161, rfl, ho0, hb⟩; refine ⟨_, rfl, ?_⟩; have n0_ := Aside0.mk (Kd.R_lower ho0 (below_size z4_2_)); have n1_ := Aside0.mk (blk_below (g := gb154) (o := .cells #[.slice A0_0 l0_0.length c0_0] 37 (0, 0)) z4_4_ hb); have n2_ := Aside0.mk (below_step z4_2_ hb); clear BK154; clear HB; have HO162 := n0_; have BK154 := n1_; have HB := n2_; clear n0_ n1_ n2_; (try clear hb); (try clear hb2); (try clear hk); (try clear hi); (try clear ho0); obtain ⟨Ao31, co31, eo31⟩ := Kd.R_slice HO162.out; subst eo31))
       go_roundg k2
       case measure => have := HJ1.out; have := HK2.out; omega
       case rel => exact ⟨(x4_2), (x5_2), (wrap64 (x20_2 + 1)), z4_3_, z4_3_, z4_3_, H', ⟨by have := HJ1.out; have := HK2.out; omega⟩, ⟨by (with_reducible repeat (first | refine blk_drewN ?_ _ | refine blk_drew ?_ | refine blk_alloc ?_ _)); exact BK154.out⟩, ⟨by repeat (first | (with_reducible first | exact HB.out | apply below_alloc | apply pw_below_drewN | apply below_drew1 | refine below_set ?_ GE154.out) | exact HB.out)⟩⟩
     rw [if_neg c13] at H
     have c13b0 : decide (x20_2 < (l0_0.length : Int)) = false := decide_eq_false c13
     clear c13
     simp only [Option.some.injEq, Prod.mk.injEq] at H
     obtain ⟨rfl, rfl⟩ := H
     go_wp2
     go_ret2
     exact ⟨by first | rfl | (simp [errW_none, errW_some] <;> rfl) | (simp [*, errW_none, errW_some] <;> rfl), by repeat (first | (with_reducible first | exact HB.out | apply below_alloc | apply pw_below_drewN | apply below_drew1 | refine below_set ?_ GE154.out) | exact HB.out)⟩

-- NOT PRINTED: function 116 (impl_Clue_116)

-- NOT PRINTED: function 92 (impl_Clue_92)

/-! ### impl_within: function 66 -/
def impl_within.f (a0 : Int) (a1 : Int) (a2 : Int) : Option (Bool) := if a1 ≤ a0 then (some (decide (a0 ≤ a2))) else (some false)
set_option maxHeartbeats 8000000 in
set_option maxRecDepth 100000 in
theorem impl_within.calls (a0 : Int) (a1 : Int) (a2 : Int) (r : Bool) (w : World) (h : impl_within.f a0 a1 a2 = some r) :
 Calls Tryd.prog 66 #[.int .i64 a0, .int .i64 a1, .int .i64 a2] w fun e w' => e = .returned (.bool r) ∧ Drawn0 w w' := by
 have H : (if a1 ≤ a0 then (some (decide (a0 ≤ a2))) else (some false)) = some r := h
 clear h
 by_cases c4 : a1 ≤ a0
 · rw [if_pos c4] at H
   have c4b0 : decide (a1 ≤ a0) = true := decide_eq_true c4
   clear c4
   obtain rfl := Option.some.inj H
   go_enter Tryd.func66, Tryd.ntmps66
   go_wp2
   go_ret
   exact ⟨by first | rfl | (simp; done) | (simp [*]; done), by repeat (first | exact Drawn0.refl _ | apply Drawn0.step)⟩
 rw [if_neg c4] at H
 have c4b0 : decide (a1 ≤ a0) = false := decide_eq_false c4
 clear c4
 obtain rfl := Option.some.inj H
 go_enter Tryd.func66, Tryd.ntmps66
 go_wp2
 go_ret
 exact ⟨by first | rfl | (simp; done) | (simp [*]; done), by repeat (first | exact Drawn0.refl _ | apply Drawn0.step)⟩

/-! ### impl_IsClue: function 54 -/
def impl_IsClue.j0 : Nat → Int → Int → Int → Int → Bool → Int → Int → Int → Option (Bool)
 | 0, _, _, _, _, _, _, _, _ => none
 | k + 1, x3, x4, x5, x16, x17, x164000, x164001, x164002 => if x17 = true then ((impl_within.f x164001 0 x3).bind fun t169 => (if t169 = true then ((impl_within.f x164002 x4 1).bind fun t170 => (some t170)) else (some false))) else (if x16 = 5 then ((impl_within.f x164001 0 x3).bind fun t171 => (if t171 = true then ((impl_within.f x164002 2 9).bind fun t172 => (some t172)) else (some false))) else ((impl_within.f x164001 0 x3).bind fun t173 => (if t173 = true then ((impl_within.f x164002 x4 x5).bind fun t174 => (some t174)) else (some false))))
def impl_IsClue.f (k : Nat) (a0_0 : Int) (a0_1 : Int) (a0_2 : Int) : Option (Bool) := (impl_within.f a0_0 0 5).bind fun t164 => (if t164 = true then ((some (([1, 3, 0, 2, 0, 0] : List Int) : List Int)).bind fun y165 => (if 0 ≤ a0_0 then (if a0_0 < (y165.length : Int) then (if a0_0 = 2 then (impl_IsClue.j0 k (rd y165 a0_0) 0 20 a0_0 (a0_0 == 2) a0_0 a0_1 a0_2) else (impl_IsClue.j0 k (rd y165 a0_0) 0 20 a0_0 (a0_0 == 3) a0_0 a0_1 a0_2)) else (none)) else (none))) else (some false))
theorem impl_IsClue.mono_l : ∀ k, (∀ y0 y1 y2 y3 y4 y5 y6 y7, LeO (impl_IsClue.j0 k y0 y1 y2 y3 y4 y5 y6 y7) (impl_IsClue.j0 (k + 1) y0 y1 y2 y3 y4 y5 y6 y7))
 | 0 => fun _ _ _ _ _ _ _ _ r h => by simp [impl_IsClue.j0] at h
 | k + 1 => by
  have ih0 := impl_IsClue.mono_l k
  intro y0 y1 y2 y3 y4 y5 y6 y7
  unfold impl_IsClue.j0
  repeat' first
  | (with_reducible exact ih0 _ _ _ _ _ _ _ _)
  | (with_reducible exact LeO.refl _)
  | (with_reducible exact LeO.none _)
  | (with_reducible refine LeO.ite ?_ ?_)
  | (with_reducible refine LeO.bind ?_ (fun _ => ?_))
  | exact ih0 _ _ _ _ _ _ _ _
  | exact LeO.none _
  | refine LeO.ite ?_ ?_
  | refine LeO.bind ?_ (fun _ => ?_)
theorem impl_IsClue.mono : ∀ a0 a1 a2 k, LeO (impl_IsClue.f k a0 a1 a2) (impl_IsClue.f (k + 1) a0 a1 a2) := by
 intro a0 a1 a2 k
 have ih0 := impl_IsClue.mono_l k
 unfold impl_IsClue.f
 repeat' first
  | (with_reducible exact ih0 _ _ _ _ _ _ _ _)
  | (with_reducible exact LeO.refl _)
  | (with_reducible exact LeO.none _)
  | (with_reducible refine LeO.ite ?_ ?_)
  | (with_reducible refine LeO.bind ?_ (fun _ => ?_))
  | exact ih0 _ _ _ _ _ _ _ _
  | exact LeO.none _
  | refine LeO.ite ?_ ?_
  | refine LeO.bind ?_ (fun _ => ?_)
set_option maxHeartbeats 8000000 in
set_option maxRecDepth 100000 in
theorem impl_IsClue.calls (k : Nat) (a0_0 : Int) (a0_1 : Int) (a0_2 : Int) (r : Bool) (w : World) (h : impl_IsClue.f k a0_0 a0_1 a0_2 = some r) :
 Calls Tryd.prog 54 #[.agg #[.int .i64 a0_0, .int .i64 a0_1, .int .i64 a0_2]] w fun e w' => e = .returned (.bool r) ∧ Below w.heap.size w w' := by
 have hu26 := Tryd.underlying26
 have HB := Aside0.mk (Below.refl w.heap.size w)
 have H : ((impl_within.f a0_0 0 5).bind fun t164 => (if t164 = true then ((some (([1, 3, 0, 2, 0, 0] : List Int) : List Int)).bind fun y165 => (if 0 ≤ a0_0 then (if a0_0 < (y165.length : Int) then (if a0_0 = 2 then (impl_IsClue.j0 k (rd y165 a0_0) 0 20 a0_0 (a0_0 == 2) a0_0 a0_1 a0_2) else (impl_IsClue.j0 k (rd y165 a0_0) 0 20 a0_0 (a0_0 == 3) a0_0 a0_1 a0_2)) else (none)) else (none))) else (some false))) = some r := h
 clear h
 replace H := Option.bind_eq_some_iff.mp H
 obtain ⟨t164, A20, H⟩ := H
 have A2 := Aside0.mk A20
 clear A20
 by_cases c3 : t164 = true
 · subst c3
   rw [if_pos rfl] at H
   obtain ⟨y165, hy165⟩ : ∃ y_ : List Int, y_ = (([1, 3, 0, 2, 0, 0] : List Int)) := ⟨_, rfl⟩
   replace H : (if 0 ≤ a0_0 then (if a0_0 < (y165.length : Int) then (if a0_0 = 2 then (impl_IsClue.j0 k (rd y165 a0_0) 0 20 a0_0 (a0_0 == 2) a0_0 a0_1 a0_2) else (impl_IsClue.j0 k (rd y165 a0_0) 0 20 a0_0 (a0_0 == 3) a0_0 a0_1 a0_2)) else (none)) else (none)) = some r := by first | (rw [hy165]; with_reducible exact H) | (have H2_ := (Option.bind_some _ _).symm.trans H; rw [hy165]; with_reducible exact H2_) | (have H2_ := (Option.bind_some _ _).symm.trans H; with_reducible exact H2_) | with_reducible exact H | (rw [hy165]; exact H) | exact H
   have Ny165 := Aside0.mk hy165
   clear hy165
   by_cases c4 : 0 ≤ a0_0
   rotate_left
   · exact none_ (if_neg c4) H
   rw [if_pos c4] at H
   have c4b0 : decide (0 ≤ a0_0) = true := decide_eq_true c4
   clear c4
   by_cases c5 : a0_0 < (y165.length : Int)
   rotate_left
   · exact none_ (if_neg c5) H
   rw [if_pos c5] at H
   have c5b0 : decide (a0_0 < (y165.length : Int)) = true := decide_eq_true c5
   clear c5
   have HC6 := Aside0.mk H
   clear H
   go_enter Tryd.func54, Tryd.ntmps54
   go_upto_if 17 with (first | ((with_reducible refine gate_dst (N := 1) rfl ?_); refine box_event ?hg (N := 1) ?hd (cs := #[.int .i64 a0_0, .int .i64 a0_1, .int .i64 a0_2]) (t := 26) ?hr ?_; (case hd => rfl); (case hg => rfl); (case hr => first | (go_simp; done) | (go_simp; rfl)); intro gb163 hg w7 hbox hb; have n0_ := Aside0.mk (below_step z4_1_ hb); have n1_ := Aside0.mk (hbox); have n2_ := Aside0.mk ((by rw [hg]; exact (below_size z4_1_) : w.heap.size ≤ gb163)); have n3_ := Aside0.mk ((by rw [hg]; exact (below_size z4_1_) : w.heap.size ≤ gb163)); clear HB; have HB := n0_; have BK163 := n1_; have GW163 := n2_; have GE163 := n3_; clear n0_ n1_ n2_ n3_; clear hb hbox hg; have hcz8_0 : w7.cell? ⟨gb163, 0, none⟩ = some (.int .i64 a0_0) := (blk_cell BK163.out 0).trans rfl; have hcz8_1 : w7.cell? ⟨gb163, 1, none⟩ = some (.int .i64 a0_1) := (blk_cell BK163.out 1).trans rfl; have hcz8_2 : w7.cell? ⟨gb163, 2, none⟩ = some (.int .i64 a0_2) := (blk_cell BK163.out 2).trans rfl; have hfz8_0 := blk_frozen BK163.out 0; have hfz8_1 := blk_frozen BK163.out 1; have hfz8_2 := blk_frozen BK163.out 2) | ((with_reducible refine gate_callee (f := 66) rfl ?_); refine goesL_ (some 8) rfl rfl Tryd.func66 (by kernel_rfl) rfl #[.int .i64 a0_0, .int .i64 0, .int .i64 5] rfl z4_0_ ?_; (with_reducible refine (impl_within.calls a0_0 0 5 true _ A2.out).mono ?_); rintro e w' ⟨rfl, ⟨nd, rfl⟩⟩; refine ⟨_, rfl, ?_⟩) | ((with_reducible refine gate_dst (N := 10) rfl ?_); refine Kd.R_lit (Kd.int .i64) _ 3 ?hg (N := 10) ?hd (xs := ([1, 3, 0, 2, 0, 0] : List Int)) (inner := [.int .i64 1, .int .i64 3, .int .i64 0, .int .i64 2, .int .i64 0, .int .i64 0]) (ok := fun _ => True) (okp := fun _ => True) ?hr ?hp (fun _ hk => hk) trivial (Below.refl _ _) (Nat.le_refl _) (by simp) ?_; (case hd => rfl); (case hg => rfl); (case hr => first | (go_simp; done) | (go_simp; rfl)); (case hp => exact (Reps.one (show Kd.M (Kd.int .i64) _ _ _ 1 [.int .i64 1] from rfl) (Reps.one (show Kd.M (Kd.int .i64) _ _ _ 3 [.int .i64 3] from rfl) (Reps.one (show Kd.M (Kd.int .i64) _ _ _ 0 [.int .i64 0] from rfl) (Reps.one (show Kd.M (Kd.int .i64) _ _ _ 2 [.int .i64 2] from rfl) (Reps.one (show Kd.M (Kd.int .i64) _ _ _ 0 [.int .i64 0] from rfl) (Reps.one (show Kd.M (Kd.int .i64) _ _ _ 0 [.int .i64 0] from rfl) (Reps.none _ _)))))))); intro v166 w9 ho10 hb hg_ hnew_; clear hg_ hnew_; (first | rw [← Ny165.out] at ho10 | (simp only [Int.reduceToNat] at ho10; rw [← Ny165.out] at ho10)); have n0_ := Aside0.mk (Kd.R_lower ho10 (below_size (by repeat (first | (with_reducible first | exact HB.out | apply below_alloc | apply pw_below_drewN | apply below_drew1 | refine below_set ?_ GE163.out) | exact HB.out)))); have n1_ := Aside0.mk (blk_below (g := gb163) (o := .cells #[.int .i64 a0_0, .int .i64 a0_1, .int .i64 a0_2] 26 (0, 0)) (by (with_reducible repeat (first | refine blk_drewN ?_ _ | refine blk_drew ?_ | refine blk_alloc ?_ _)); exact BK163.out) hb); have n2_ := Aside0.mk (below_step (by repeat (first | (with_reducible first | exact HB.out | apply below_alloc | apply pw_below_drewN | apply below_drew1 | refine below_set ?_ GE163.out) | exact HB.out)) hb); clear BK163; clear HB; have HO167 := n0_; have BK163 := n1_; have HB := n2_; clear n0_ n1_ n2_; clear hb ho10; have hcz11_0 : w9.cell? ⟨gb163, 0, none⟩ = some (.int .i64 a0_0) := (blk_cell BK163.out 0).trans rfl; have hcz11_1 : w9.cell? ⟨gb163, 1, none⟩ = some (.int .i64 a0_1) := (blk_cell BK163.out 1).trans rfl; have hcz11_2 : w9.cell? ⟨gb163, 2, none⟩ = some (.int .i64 a0_2) := (blk_cell BK163.out 2).trans rfl; have hfz11_0 := blk_frozen BK163.out 0; have hfz11_1 := blk_frozen BK163.out 1; have hfz11_2 := blk_frozen BK163.out 2; obtain ⟨Ao12, co12, eo12⟩ := Kd.R_slice HO167.out; subst eo12; have p168 : 0 ≤ (a0_0 : Int) := of_decide_eq_true z4_5_; have q168 : a0_0 < (y165.length : Int) := of_decide_eq_true z4_5_; obtain ⟨ad168, e168, hx168_0⟩ := Kd.at_int (Kd.R_reads' HO167.out).2.2 a0_0 p168 q168; cases e168; replace p168 := eq_true p168; replace q168 := eq_true q168))
   (try simp only [Act.put, List.setIfInBounds_toArray, List.set_cons_zero, List.set_cons_succ])
   go_cut [17] (fun v17 wc => ∃ (kq : Nat) (x17_5 : Bool), v17 = .bool x17_5 ∧ Aside0 (impl_IsClue.j0 kq (rd y165 a0_0) 0 20 a0_0 x17_5 a0_0 a0_1 a0_2 = some r) ∧ Aside0 (kq ≤ k) ∧ Aside0 (wc.heap[gb163]? = some (.cells #[.int .i64 a0_0, .int .i64 a0_1, .int .i64 a0_2] 26 (0, 0))) ∧ Aside0 (Below w.heap.size w wc))
   case first =>
    have H := HC6.out
    clear HC6
    by_cases c13 : a0_0 = 2
    · rw [if_pos c13] at H
      have c13b0 : (a0_0 == 2) = true := beq_iff_eq.mpr c13
      have c13b1 : (a0_0 != 2) = false := bne_eq_false_iff_eq.mpr c13
      clear c13
      (first | rw [c13b0] | (simp only [i64_w, i32_w]; rw [c13b0]) | skip)
      have H' := Aside0.mk H
      clear H
      go_wp2
      go_meet
      case rel => exact ⟨_, ((a0_0 == 2)), z4_3_, H', ⟨by first | omega | exact Nat.le_refl _⟩, ⟨by (with_reducible repeat (first | refine blk_drewN ?_ _ | refine blk_drew ?_ | refine blk_alloc ?_ _)); exact BK163.out⟩, ⟨by repeat (first | (with_reducible first | exact HB.out | apply below_alloc | apply pw_below_drewN | apply below_drew1 | refine below_set ?_ GE163.out) | exact HB.out)⟩⟩
    rw [if_neg c13] at H
    have c13b0 : (a0_0 == 2) = false := beq_eq_false_iff_ne.mpr c13
    have c13b1 : (a0_0 != 2) = true := bne_iff_ne.mpr c13
    (first | rw [c13b0] | (simp only [i64_w, i32_w]; rw [c13b0]) | skip)
    have H' := Aside0.mk H
    clear H
    go_wp2
    go_meet
    case rel => exact ⟨_, ((a0_0 == 3)), z4_3_, H', ⟨by first | omega | exact Nat.le_refl _⟩, ⟨by (with_reducible repeat (first | refine blk_drewN ?_ _ | refine blk_drew ?_ | refine blk_alloc ?_ _)); exact BK163.out⟩, ⟨by repeat (first | (with_reducible first | exact HB.out | apply below_alloc | apply pw_below_drewN | apply below_drew1 | refine below_set ?_ GE163.out) | exact HB.out)⟩⟩
   case rest =>
    clear HC6
    (try clear c1);(try clear p1);(try clear q1);(try clear hx1);(try clear p2);(try clear c3);(try clear c4);(try clear c4b0);(try clear c5);(try clear c5b0);(try clear c6);(try clear c13);(try clear c13b0);(try clear c13b1);(try clear hcz11_0);(try clear hcz11_1);(try clear hcz11_2);(try clear hcz8_0);(try clear hcz8_1);(try clear hcz8_2);(try clear hfz11_0);(try clear hfz11_1);(try clear hfz11_2);(try clear hfz8_0);(try clear hfz8_1);(try clear hfz8_2);(try clear hx168_0);(try clear p168);(try clear q168)
    obtain ⟨kq, x17_5, rfl, HA, HJ5, BK163, HB⟩ := hcut
    cases kq with
    | zero => exact absurd HA.out (by simp [impl_IsClue.j0])
    | succ kj5 =>
     have H := HA.out
     clear HA
     simp only [impl_IsClue.j0] at H
     by_cases c14 : x17_5 = true
     · subst c14
       rw [if_pos rfl] at H
       replace H := Option.bind_eq_some_iff.mp H
       obtain ⟨t169, A150, H⟩ := H
       have A15 := Aside0.mk A150
       clear A150
       by_cases c16 : t169 = true
       · subst c16
         rw [if_pos rfl] at H
         replace H := Option.bind_eq_some_iff.mp H
         obtain ⟨t170, A170, H⟩ := H
         have A17 := Aside0.mk A170
         clear A170
         obtain rfl := Option.some.inj H
         have hcz18_0 : wc.cell? ⟨gb163, 0, none⟩ = some (.int .i64 a0_0) := (blk_cell BK163.out 0).trans rfl
         have hcz18_1 : wc.cell? ⟨gb163, 1, none⟩ = some (.int .i64 a0_1) := (blk_cell BK163.out 1).trans rfl
         have hcz18_2 : wc.cell? ⟨gb163, 2, none⟩ = some (.int .i64 a0_2) := (blk_cell BK163.out 2).trans rfl
         have hfz18_0 := blk_frozen BK163.out 0
         have hfz18_1 := blk_frozen BK163.out 1
         have hfz18_2 := blk_frozen BK163.out 2
         go_wp2_with (first | ((with_reducible refine gate_callee (f := 66) rfl ?_); refine goesL_ (some 25) rfl rfl Tryd.func66 (by kernel_rfl) rfl #[.int .i64 a0_1, .int .i64 0, .int .i64 (rd y165 a0_0)] rfl z4_0_ ?_; (with_reducible refine (impl_within.calls a0_1 0 (rd y165 a0_0) true _ A15.out).mono ?_); rintro e w' ⟨rfl, ⟨nd, rfl⟩⟩; refine ⟨_, rfl, ?_⟩) | (go_at_call 66; (with_reducible refine (impl_within.calls a0_2 0 1 t170 _ A17.out).mono ?_); rintro e w' ⟨rfl, ⟨nd, rfl⟩⟩))
         go_ret
         exact ⟨by first | rfl | (simp [errW_none, errW_some] <;> rfl) | (simp [*, errW_none, errW_some] <;> rfl), by repeat (first | (with_reducible first | exact HB.out | apply below_alloc | apply pw_below_drewN | apply below_drew1 | refine below_set ?_ GE163.out) | exact HB.out)⟩
       replace c16 := Bool.eq_false_iff.mpr c16
       subst c16
       rw [if_neg (show ¬ (false = true) by decide)] at H
       obtain rfl := Option.some.inj H
       have hcz19_0 : wc.cell? ⟨gb163, 0, none⟩ = some (.int .i64 a0_0) := (blk_cell BK163.out 0).trans rfl
       have hcz19_1 : wc.cell? ⟨gb163, 1, none⟩ = some (.int .i64 a0_1) := (blk_cell BK163.out 1).trans rfl
       have hcz19_2 : wc.cell? ⟨gb163, 2, none⟩ = some (.int .i64 a0_2) := (blk_cell BK163.out 2).trans rfl
       have hfz19_0 := blk_frozen BK163.out 0
       have hfz19_1 := blk_frozen BK163.out 1
       have hfz19_2 := blk_frozen BK163.out 2
       go_wp2_with (first | ((with_reducible refine gate_callee (f := 66) rfl ?_); refine goesL_ (some 25) rfl rfl Tryd.func66 (by kernel_rfl) rfl #[.int .i64 a0_1, .int .i64 0, .int .i64 (rd y165 a0_0)] rfl z4_0_ ?_; (with_reducible refine (impl_within.calls a0_1 0 (rd y165 a0_0) false _ A15.out).mono ?_); rintro e w' ⟨rfl, ⟨nd, rfl⟩⟩; refine ⟨_, rfl, ?_⟩))
       go_ret
       exact ⟨by first | rfl | (simp [errW_none, errW_some] <;> rfl) | (simp [*, errW_none, errW_some] <;> rfl), by repeat (first | (with_reducible first | exact HB.out | apply below_alloc | apply pw_below_drewN | apply below_drew1 | refine below_set ?_ GE163.out) | exact HB.out)⟩
     replace c14 := Bool.eq_false_iff.mpr c14
     subst c14
     rw [if_neg (show ¬ (false = true) by decide)] at H
     by_cases c20 : a0_0 = 5
     · rw [if_pos c20] at H
       have c20b0 : (a0_0 == 5) = true := beq_iff_eq.mpr c20
       have c20b1 : (a0_0 != 5) = false := bne_eq_false_iff_eq.mpr c20
       clear c20
       replace H := Option.bind_eq_some_iff.mp H
       obtain ⟨t171, A210, H⟩ := H
       have A21 := Aside0.mk A210
       clear A210
       by_cases c22 : t171 = true
       · subst c22
         rw [if_pos rfl] at H
         replace H := Option.bind_eq_some_iff.mp H
         obtain ⟨t172, A230, H⟩ := H
         have A23 := Aside0.mk A230
         clear A230
         obtain rfl := Option.some.inj H
         have hcz24_0 : wc.cell? ⟨gb163, 0, none⟩ = some (.int .i64 a0_0) := (blk_cell BK163.out 0).trans rfl
         have hcz24_1 : wc.cell? ⟨gb163, 1, none⟩ = some (.int .i64 a0_1) := (blk_cell BK163.out 1).trans rfl
         have hcz24_2 : wc.cell? ⟨gb163, 2, none⟩ = some (.int .i64 a0_2) := (blk_cell BK163.out 2).trans rfl
         have hfz24_0 := blk_frozen BK163.out 0
         have hfz24_1 := blk_frozen BK163.out 1
         have hfz24_2 := blk_frozen BK163.out 2
         go_wp2_with (first | ((with_reducible refine gate_callee (f := 66) rfl ?_); refine goesL_ (some 25) rfl rfl Tryd.func66 (by kernel_rfl) rfl #[.int .i64 a0_1, .int .i64 0, .int .i64 (rd y165 a0_0)] rfl z4_0_ ?_; (with_reducible refine (impl_within.calls a0_1 0 (rd y165 a0_0) true _ A21.out).mono ?_); rintro e w' ⟨rfl, ⟨nd, rfl⟩⟩; refine ⟨_, rfl, ?_⟩) | (go_at_call 66; (with_reducible refine (impl_within.calls a0_2 2 9 t172 _ A23.out).mono ?_); rintro e w' ⟨rfl, ⟨nd, rfl⟩⟩))
         go_ret
         exact ⟨by first | rfl | (simp [errW_none, errW_some] <;> rfl) | (simp [*, errW_none, errW_some] <;> rfl), by repeat (first | (with_reducible first | exact HB.out | apply below_alloc | apply pw_below_drewN | apply below_drew1 | refine below_set ?_ GE163.out) | exact HB.out)⟩
       replace c22 := Bool.eq_false_iff.mpr c22
       subst c22
       rw [if_neg (show ¬ (false = true) by decide)] at H
       obtain rfl := Option.some.inj H
       have hcz25_0 : wc.cell? ⟨gb163, 0, none⟩ = some (.int .i64 a0_0) := (blk_cell BK163.out 0).trans rfl
       have hcz25_1 : wc.cell? ⟨gb163, 1, none⟩ = some (.int .i64 a0_1) := (blk_cell BK163.out 1).trans rfl
       have hcz25_2 : wc.cell? ⟨gb163, 2, none⟩ = some (.int .i64 a0_2) := (blk_cell BK163.out 2).trans rfl
       have hfz25_0 := blk_frozen BK163.out 0
       have hfz25_1 := blk_frozen BK163.out 1
       have hfz25_2 := blk_frozen BK163.out 2
       go_wp2_with (first | ((with_reducible refine gate_callee (f := 66) rfl ?_); refine goesL_ (some 25) rfl rfl Tryd.func66 (by kernel_rfl) rfl #[.int .i64 a0_1, .int .i64 0, .int .i64 (rd y165 a0_0)] rfl z4_0_ ?_; (with_reducible refine (impl_within.calls a0_1 0 (rd y165 a0_0) false _ A21.out).mono ?_); rintro e w' ⟨rfl, ⟨nd, rfl⟩⟩; refine ⟨_, rfl, ?_⟩))
       go_ret
       exact ⟨by first | rfl | (simp [errW_none, errW_some] <;> rfl) | (simp [*, errW_none, errW_some] <;> rfl), by repeat (first | (with_reducible first | exact HB.out | apply below_alloc | apply pw_below_drewN | apply below_drew1 | refine below_set ?_ GE163.out) | exact HB.out)⟩
     rw [if_neg c20] at H
     have c20b0 : (a0_0 == 5) = false := beq_eq_false_iff_ne.mpr c20
     have c20b1 : (a0_0 != 5) = true := bne_iff_ne.mpr c20
     replace H := Option.bind_eq_some_iff.mp H
     obtain ⟨t173, A260, H⟩ := H
     have A26 := Aside0.mk A260
     clear A260
     by_cases c27 : t173 = true
     · subst c27
       rw [if_pos rfl] at H
       replace H := Option.bind_eq_some_iff.mp H
       obtain ⟨t174, A280, H⟩ := H
       have A28 := Aside0.mk A280
       clear A280
       obtain rfl := Option.some.inj H
       have hcz29_0 : wc.cell? ⟨gb163, 0, none⟩ = some (.int .i64 a0_0) := (blk_cell BK163.out 0).trans rfl
       have hcz29_1 : wc.cell? ⟨gb163, 1, none⟩ = some (.int .i64 a0_1) := (blk_cell BK163.out 1).trans rfl
       have hcz29_2 : wc.cell? ⟨gb163, 2, none⟩ = some (.int .i64 a0_2) := (blk_cell BK163.out 2).trans rfl
       have hfz29_0 := blk_frozen BK163.out 0
       have hfz29_1 := blk_frozen BK163.out 1
       have hfz29_2 := blk_frozen BK163.out 2
       go_wp2_with (first | ((with_reducible refine gate_callee (f := 66) rfl ?_); refine goesL_ (some 25) rfl rfl Tryd.func66 (by kernel_rfl) rfl #[.int .i64 a0_1, .int .i64 0, .int .i64 (rd y165 a0_0)] rfl z4_0_ ?_; (with_reducible refine (impl_within.calls a0_1 0 (rd y165 a0_0) true _ A26.out).mono ?_); rintro e w' ⟨rfl, ⟨nd, rfl⟩⟩; refine ⟨_, rfl, ?_⟩) | (go_at_call 66; (with_reducible refine (impl_within.calls a0_2 0 20 t174 _ A28.out).mono ?_); rintro e w' ⟨rfl, ⟨nd, rfl⟩⟩))
       go_ret
       exact ⟨by first | rfl | (simp [errW_none, errW_some] <;> rfl) | (simp [*, errW_none, errW_some] <;> rfl), by repeat (first | (with_reducible first | exact HB.out | apply below_alloc | apply pw_below_drewN | apply below_drew1 | refine below_set ?_ GE163.out) | exact HB.out)⟩
     replace c27 := Bool.eq_false_iff.mpr c27
     subst c27
     rw [if_neg (show ¬ (false = true) by decide)] at H
     obtain rfl := Option.some.inj H
     have hcz30_0 : wc.cell? ⟨gb163, 0, none⟩ = some (.int .i64 a0_0) := (blk_cell BK163.out 0).trans rfl
     have hcz30_1 : wc.cell? ⟨gb163, 1, none⟩ = some (.int .i64 a0_1) := (blk_cell BK163.out 1).trans rfl
     have hcz30_2 : wc.cell? ⟨gb163, 2, none⟩ = some (.int .i64 a0_2) := (blk_cell BK163.out 2).trans rfl
     have hfz30_0 := blk_frozen BK163.out 0
     have hfz30_1 := blk_frozen BK163.out 1
     have hfz30_2 := blk_frozen BK163.out 2
     go_wp2_with (first | ((with_reducible refine gate_callee (f := 66) rfl ?_); refine goesL_ (some 25) rfl rfl Tryd.func66 (by kernel_rfl) rfl #[.int .i64 a0_1, .int .i64 0, .int .i64 (rd y165 a0_0)] rfl z4_0_ ?_; (with_reducible refine (impl_within.calls a0_1 0 (rd y165 a0_0) false _ A26.out).mono ?_); rintro e w' ⟨rfl, ⟨nd, rfl⟩⟩; refine ⟨_, rfl, ?_⟩))
     go_ret
     exact ⟨by first | rfl | (simp [errW_none, errW_some] <;> rfl) | (simp [*, errW_none, errW_some] <;> rfl), by repeat (first | (with_reducible first | exact HB.out | apply below_alloc | apply pw_below_drewN | apply below_drew1 | refine below_set ?_ GE163.out) | exact HB.out)⟩
 replace c3 := Bool.eq_false_iff.mpr c3
 subst c3
 rw [if_neg (show ¬ (false = true) by decide)] at H
 obtain rfl := Option.some.inj H
 go_enter Tryd.func54, Tryd.ntmps54
 go_wp2_with (first | ((with_reducible refine gate_dst (N := 1) rfl ?_); refine box_event ?hg (N := 1) ?hd (cs := #[.int .i64 a0_0, .int .i64 a0_1, .int .i64 a0_2]) (t := 26) ?hr ?_; (case hd => rfl); (case hg => rfl); (case hr => first | (go_simp; done) | (go_simp; rfl)); intro gb163 hg w31 hbox hb; have n0_ := Aside0.mk (below_step z4_1_ hb); have n1_ := Aside0.mk (hbox); have n2_ := Aside0.mk ((by rw [hg]; exact (below_size z4_1_) : w.heap.size ≤ gb163)); have n3_ := Aside0.mk ((by rw [hg]; exact (below_size z4_1_) : w.heap.size ≤ gb163)); clear HB; have HB := n0_; have BK163 := n1_; have GW163 := n2_; have GE163 := n3_; clear n0_ n1_ n2_ n3_; clear hb hbox hg; have hcz32_0 : w31.cell? ⟨gb163, 0, none⟩ = some (.int .i64 a0_0) := (blk_cell BK163.out 0).trans rfl; have hcz32_1 : w31.cell? ⟨gb163, 1, none⟩ = some (.int .i64 a0_1) := (blk_cell BK163.out 1).trans rfl; have hcz32_2 : w31.cell? ⟨gb163, 2, none⟩ = some (.int .i64 a0_2) := (blk_cell BK163.out 2).trans rfl; have hfz32_0 := blk_frozen BK163.out 0; have hfz32_1 := blk_frozen BK163.out 1; have hfz32_2 := blk_frozen BK163.out 2) | ((with_reducible refine gate_callee (f := 66) rfl ?_); refine goesL_ (some 8) rfl rfl Tryd.func66 (by kernel_rfl) rfl #[.int .i64 a0_0, .int .i64 0, .int .i64 5] rfl z4_0_ ?_; (with_reducible refine (impl_within.calls a0_0 0 5 false _ A2.out).mono ?_); rintro e w' ⟨rfl, ⟨nd, rfl⟩⟩; refine ⟨_, rfl, ?_⟩))
 go_ret
 exact ⟨by first | rfl | (simp [errW_none, errW_some] <;> rfl) | (simp [*, errW_none, errW_some] <;> rfl), by repeat (first | (with_reducible first | exact HB.out | apply below_alloc | apply pw_below_drewN | apply below_drew1 | refine below_set ?_ GE163.out) | exact HB.out)⟩

/-! ### impl_IsPuzzle_1: function 93 -/
def impl_IsPuzzle_1.f (k : Nat) (a0_0 : Int) (a0_1 : Int) (a0_2 : Int) : Option (Bool) := (impl_IsClue.f k a0_0 a0_1 a0_2).bind fun t176 => (some (!t176))
theorem impl_IsPuzzle_1.mono : ∀ a0 a1 a2 k, LeO (impl_IsPuzzle_1.f k a0 a1 a2) (impl_IsPuzzle_1.f (k + 1) a0 a1 a2) := by
 intro a0 a1 a2 k
 unfold impl_IsPuzzle_1.f
 repeat' first
  | (with_reducible exact impl_IsClue.mono _ _ _ _)
  | (with_reducible exact LeO.refl _)
  | (with_reducible exact LeO.none _)
  | (with_reducible refine LeO.ite ?_ ?_)
  | (with_reducible refine LeO.bind ?_ (fun _ => ?_))
  | exact impl_IsClue.mono _ _ _ _
  | exact LeO.none _
  | refine LeO.ite ?_ ?_
  | refine LeO.bind ?_ (fun _ => ?_)
set_option maxHeartbeats 8000000 in
set_option maxRecDepth 100000 in
theorem impl_IsPuzzle_1.calls (k : Nat) (a0_0 : Int) (a0_1 : Int) (a0_2 : Int) (r : Bool) (w : World) (h : impl_IsPuzzle_1.f k a0_0 a0_1 a0_2 = some r) :
 Calls Tryd.prog 93 #[.agg #[.int .i64 a0_0, .int .i64 a0_1, .int .i64 a0_2]] w fun e w' => e = .returned (.bool r) ∧ Below w.heap.size w w' := by
 have hu26 := Tryd.underlying26
 have HB := Aside0.mk (Below.refl w.heap.size w)
 have H : ((impl_IsClue.f k a0_0 a0_1 a0_2).bind fun t176 => (some (!t176))) = some r := h
 clear h
 replace H := Option.bind_eq_some_iff.mp H
 obtain ⟨t176, A20, H⟩ := H
 have A2 := Aside0.mk A20
 clear A20
 obtain rfl := Option.some.inj H
 go_enter Tryd.func93, Tryd.ntmps93
 go_wp2_with (first | ((with_reducible refine gate_dst (N := 1) rfl ?_); refine box_event ?hg (N := 1) ?hd (cs := #[.int .i64 a0_0, .int .i64 a0_1, .int .i64 a0_2]) (t := 26) ?hr ?_; (case hd => rfl); (case hg => rfl); (case hr => first | (go_simp; done) | (go_simp; rfl)); intro gb175 hg w3 hbox hb; have n0_ := Aside0.mk (below_step z4_1_ hb); have n1_ := Aside0.mk (hbox); have n2_ := Aside0.mk ((by rw [hg]; exact (below_size z4_1_) : w.heap.size ≤ gb175)); have n3_ := Aside0.mk ((by rw [hg]; exact (below_size z4_1_) : w.heap.size ≤ gb175)); clear HB; have HB := n0_; have BK175 := n1_; have GW175 := n2_; have GE175 := n3_; clear n0_ n1_ n2_ n3_; clear hb hbox hg; have hcz4_0 : w3.cell? ⟨gb175, 0, none⟩ = some (.int .i64 a0_0) := (blk_cell BK175.out 0).trans rfl; have hcz4_1 : w3.cell? ⟨gb175, 1, none⟩ = some (.int .i64 a0_1) := (blk_cell BK175.out 1).trans rfl; have hcz4_2 : w3.cell? ⟨gb175, 2, none⟩ = some (.int .i64 a0_2) := (blk_cell BK175.out 2).trans rfl; have hfz4_0 := blk_frozen BK175.out 0; have hfz4_1 := blk_frozen BK175.out 1; have hfz4_2 := blk_frozen BK175.out 2) | ((with_reducible refine gate_callee (f := 54) rfl ?_); refine goesL_ (some 4) rfl rfl Tryd.func54 (by kernel_rfl) rfl #[.agg #[.int .i64 a0_0, .int .i64 a0_1, .int .i64 a0_2]] rfl z4_0_ ?_; (with_reducible refine (impl_IsClue.calls k a0_0 a0_1 a0_2 t176 _ A2.out).mono ?_); rintro e w5 ⟨rfl, hb⟩; refine ⟨_, rfl, ?_⟩; have n0_ := Aside0.mk (blk_below (g := gb175) (o := .cells #[.int .i64 a0_0, .int .i64 a0_1, .int .i64 a0_2] 26 (0, 0)) (by (with_reducible repeat (first | refine blk_drewN ?_ _ | refine blk_drew ?_ | refine blk_alloc ?_ _)); exact BK175.out) hb); have n1_ := Aside0.mk (below_step (by repeat (first | (with_reducible first | exact HB.out | apply below_alloc | apply pw_below_drewN | apply below_drew1 | refine below_set ?_ GE175.out) | exact HB.out)) hb); clear BK175; clear HB; have BK175 := n0_; have HB := n1_; clear n0_ n1_; (try clear hb); (try clear hb2); (try clear hk); (try clear hi)))
 go_ret
 exact ⟨by first | rfl | (simp [errW_none, errW_some] <;> rfl) | (simp [*, errW_none, errW_some] <;> rfl), by repeat (first | (with_reducible first | exact HB.out | apply below_alloc | apply pw_below_drewN | apply below_drew1 | refine below_set ?_ GE175.out) | exact HB.out)⟩

end Go.Proofs.YtgpakeadepcgnaaDoor.PFnExactBestClue

-- Laid by this session's program gprint.py over the kit's print.
import Derived.Test.YtogonichanoeaaaGreatDoorPFnLeastOfSumsx0
import Derived.Test.YtogonichanoeaaaGreatDoorPFnLeastOfSumsx2
import Derived.Test.YtogonichanoeaaaGreatDoorPFnLeastOfSumsx3
import Derived.Test.YtogonichanoeaaaGreatDoorPFnLeastOfSumsx7
namespace Go.Proofs.YtogonichanoeaaaGreatDoor.PFnLeastOfSums
open Go.RowKit Go.Proofs.YtogonichanoeaaaGreatDoorW.PrintWords Go.Proofs.YtogonichanoeaaaGreatDoorW.PrintLast Go.Proofs.YtogonichanoeaaaGreatDoorW.PrintMore
attribute [local go_sem] max2_int min2_int max_two min_two max_three min_three max_four min_four   -- for this text's walks alone
set_option linter.unusedVariables false
set_option linter.unusedSimpArgs false

/-! ### impl_LeastBoth: function 26 -/
-- behind 81 82 83 66 79
def impl_choose.leaf (k : Nat) (ds : List Int) (s : Int) (st : Int × Bool) : Option (Int × Bool) := (impl_asLeast.f k (ds ++ List.replicate s.toNat 49)).bind fun r => some (if r.2 = true ∧ 0 < r.1 ∧ (st.2 = false ∨ r.1 < st.1) then (r.1, true) else st)
def impl_choose.loop (F : List Int → Nat → Int → Int → Int × Bool → Option (Int × Bool)) (ds : List Int) (s p : Int) : Nat → Int × Bool → Option (Int × Bool)
 | 0, st => some st
 | c + 1, st => if Int.tmod p ((c + 2 : Nat) : Int) = 0 ∧ ((c + 2 : Nat) : Int) ≤ s then (F (ds ++ [((c + 50 : Nat) : Int)]) (c + 2) (s - ((c + 2 : Nat) : Int)) (Int.tdiv p ((c + 2 : Nat) : Int)) st).bind fun st' => impl_choose.loop F ds s p c st' else impl_choose.loop F ds s p c st
def impl_choose.f (k : Nat) : Nat → List Int → Nat → Int → Int → Int × Bool → Option (Int × Bool)
 | 0, _, _, _, _, _ => none
 | n + 1, ds, most, s, p, st => if (0 ≤ s ∧ s ≤ 108) ∧ (1 ≤ p ∧ p ≤ 1000000000000) ∧ (1 ≤ most ∧ most ≤ 9) ∧ ds.length ≤ 60 then (if p = 1 then impl_choose.leaf k ds s st else impl_choose.loop (impl_choose.f k n) ds s p (most - 1) st) else none
theorem impl_choose.loop_mono {F G : List Int → Nat → Int → Int → Int × Bool → Option (Int × Bool)} (hF : ∀ a b c d e, LeO (F a b c d e) (G a b c d e)) (ds : List Int) (s p : Int) : ∀ c st, LeO (impl_choose.loop F ds s p c st) (impl_choose.loop G ds s p c st)
 | 0, _ => LeO.refl _
 | c + 1, st => by
  unfold impl_choose.loop
  exact LeO.ite (LeO.bind (hF _ _ _ _ _) (fun _ => impl_choose.loop_mono hF ds s p c _)) (impl_choose.loop_mono hF ds s p c _)
theorem impl_choose.mono (k : Nat) : ∀ n ds most s p st, LeO (impl_choose.f k n ds most s p st) (impl_choose.f (k + 1) n ds most s p st)
 | 0, _, _, _, _, _ => LeO.refl _
 | n + 1, ds, most, s, p, st => by
  unfold impl_choose.f impl_choose.leaf
  exact LeO.ite (LeO.ite (LeO.bind (impl_asLeast.mono _ _) (fun _ => LeO.refl _)) (impl_choose.loop_mono (fun a b c d e => impl_choose.mono k n a b c d e) ds s p _ st)) (LeO.refl _)
def impl_LeastBoth.f (k : Nat) (a0 a1 : Int) : Option (Int × Bool) := (impl_isSum.f a0).bind fun t1 => (if t1 = true then ((impl_isProduct.f a1).bind fun t2 => (if t2 = true then impl_choose.f k 42 [] 9 a0 a1 (0, false) else some (0, false))) else some (0, false))
theorem impl_LeastBoth.mono : ∀ a0 a1 k, LeO (impl_LeastBoth.f k a0 a1) (impl_LeastBoth.f (k + 1) a0 a1) := by
 intro a0 a1 k
 unfold impl_LeastBoth.f
 exact LeO.bind (LeO.refl _) (fun _ => LeO.ite (LeO.bind (LeO.refl _) (fun _ => LeO.ite (impl_choose.mono k _ _ _ _ _ _) (LeO.refl _))) (LeO.refl _))
def impl_choose.KB (gf gb : Nat) (w w' : World) : Prop := w.heap.size ≤ w'.heap.size ∧ ∀ k, k < w.heap.size → k ≠ gf → k ≠ gb → w'.heap[k]? = w.heap[k]?
theorem impl_choose.KB.refl (gf gb : Nat) (w : World) : impl_choose.KB gf gb w w := ⟨Nat.le_refl _, fun _ _ _ _ => rfl⟩
theorem impl_choose.KB.trans {gf gb : Nat} {w w1 w2 : World} (h : impl_choose.KB gf gb w w1) (h' : impl_choose.KB gf gb w1 w2) : impl_choose.KB gf gb w w2 :=
 ⟨Nat.le_trans h.1 h'.1, fun k hk h1 h2 => (h'.2 k (Nat.lt_of_lt_of_le hk h.1) h1 h2).trans (h.2 k hk h1 h2)⟩
theorem impl_choose.KB.below {gf gb : Nat} {w w1 w2 : World} (h : impl_choose.KB gf gb w w1) (h' : Below w1.heap.size w1 w2) : impl_choose.KB gf gb w w2 :=
 h.trans ⟨h'.size, fun k hk _ _ => h'.block k hk⟩
theorem impl_choose.KB.set {gf gb : Nat} {w w1 : World} (h : impl_choose.KB gf gb w w1) (p : Addr) (hp : p.block = gf ∨ p.block = gb) (u : Value) : impl_choose.KB gf gb w (w1.setCell p u) :=
 h.trans ⟨by simp [World.setCell], fun k hk h1 h2 => Below.heap_setCell w1 p u k (by rcases hp with e | e <;> rw [e] <;> assumption)⟩
theorem impl_choose.KB.c {gf gb : Nat} {w w' : World} (hk : impl_choose.KB gf gb w w') {A : Option Addr} {n : Nat} {xs : List Int} (h : (Kd.int .u8).C w A n xs) (hf : ∀ ad, A = some ad → ad.block ≠ gf ∧ ad.block ≠ gb) : (Kd.int .u8).C w' A n xs :=
 have h2 := Kd.reads_of_C (d := (0 : Int)) h
 Kd.C_of_reads (d := (0 : Int)) ⟨h2.1, h2.2.1, fun hn => by
  obtain ⟨ad, e, hc⟩ := h2.2.2 hn
  refine ⟨ad, e, fun j hj => ?_⟩
  have h3 := hc j hj
  have h4 := World.block_lt_of_cell? w _ h3
  obtain ⟨h5, h6⟩ := hf ad e
  rw [add_block] at h4
  have h7 := hk.2 ad.block h4 h5 h6
  have e1 := add_block ad j
  simpa [World.cell?, e1, h7] using h3⟩
theorem impl_choose.ones (n : Nat) : bytesOf ⟨(Lib.repeatL [49] n).toArray⟩ = List.replicate n (49 : Int) := by
 unfold bytesOf
 induction n with
 | zero => rfl
 | succ n ih => 
  simp only [Lib.repeatL, List.replicate_succ] at ih ⊢
  rw [← ih]
  rfl
set_option maxHeartbeats 8000000 in
set_option maxRecDepth 100000 in
theorem impl_choose.leaf_calls (k : Nat) (w0 : World) (gf gb gc : Nat) (hgf : w0.heap.size ≤ gf) (hgb : w0.heap.size ≤ gb) (ds : List Int) (most s best : Int) (found : Bool) (r : Int × Bool) (A : Option Addr) (c : Nat) (w : World)
 (hs0 : 0 ≤ s) (hs1 : s ≤ 108) (hd : ds.length ≤ 60)
 (hb : Below w0.heap.size w0 w) (hf : w.heap[gf]? = some (.cells #[.bool found] 4 (0, 0))) (hbe : w.heap[gb]? = some (.cells #[.int .i64 best] 3 (0, 0)))
 (hr : Kd.C (Kd.int .u8) w A ds.length ds) (hc : ds.length ≤ c) (h : impl_choose.leaf k ds s (best, found) = some r) :
 Calls Tryz.prog 80 #[.slice A ds.length c, .int .i64 most, .int .i64 s, .int .i64 1, .pointer (some ⟨gf, 0, none⟩), .pointer (some ⟨gb, 0, none⟩), .pointer (some ⟨gc, 0, none⟩)] w fun e w' => e = .returned (.tuple #[]) ∧ w'.heap[gf]? = some (.cells #[.bool r.2] 4 (0, 0)) ∧ w'.heap[gb]? = some (.cells #[.int .i64 r.1] 3 (0, 0)) ∧ impl_choose.KB gf gb w w' ∧ Below w0.heap.size w0 w' := by
 have hne : gf ≠ gb := blk_ne hf hbe (by decide)
 unfold impl_choose.leaf at h
 obtain ⟨⟨n, ok⟩, hq, h⟩ := Option.bind_eq_some_iff.mp h
 simp only [] at h
 obtain ⟨y, hy⟩ : ∃ y : ByteArray, y = ⟨(Lib.repeatL [49] s.toNat).toArray⟩ := ⟨_, rfl⟩
 have hyb : bytesOf y = List.replicate s.toNat (49 : Int) := by rw [hy]; exact impl_choose.ones _
 have hys : y.size = s.toNat := by rw [← bytesOf_length, hyb, List.length_replicate]
 rw [← hyb] at hq
 have hrp : strings_Repeat.f ⟨#[49]⟩ s = some y := by
  unfold strings_Repeat.f
  rw [if_pos hs0, if_pos (by omega), if_pos (by show 1 * s.toNat ≤ _; omega), hy]
 have hcl : slices_Clone_byte.f ds = some ds := by
  unfold slices_Clone_byte.f
  rw [if_pos (by omega)]
 have H0 := Aside0.mk hb
 have HF := Aside0.mk hf
 have HE := Aside0.mk hbe
 have HR := Aside0.mk hr
 have HC := Aside0.mk hc
 have HQ := Aside0.mk hq
 have HRP := Aside0.mk hrp
 have HCL := Aside0.mk hcl
 have HGF := Aside0.mk hgf
 have HGB := Aside0.mk hgb
 have HNE := Aside0.mk hne
 have HLY := Aside0.mk (show ds.length + y.size ≤ 140737488355328 by omega)
 have HLZ := Aside0.mk (show (ds ++ bytesOf y).length < 4611686018427387904 by rw [List.length_append, bytesOf_length]; omega)
 have HB := Aside0.mk (Below.refl w.heap.size w)
 have s1 : decide (0 ≤ s) = true := decide_eq_true hs0
 have H := Aside0.mk (Option.some.inj h)
 clear hb hf hbe hr hc hq hrp hcl hgf hgb hne hy hyb hys hs0 hs1 hd h
 by_cases c0 : ok = true ∧ 0 < n ∧ (found = false ∨ n < best)
 · have HH := H.out
   rw [if_pos c0] at HH
   subst HH
   clear H
   obtain ⟨rfl, c1, c2⟩ := c0
   have d1 : decide (0 < n) = true := decide_eq_true c1
   have d2 : found = true → decide (n < best) = true := fun e => decide_eq_true (by rcases c2 with h | h; (rw [e] at h; cases h); exact h)
   clear c1 c2
   cases found with
   | false =>
    clear d2
    go_enter Tryz.func80, Tryz.ntmps80
    go_wp2_with (first | (go_at_call 82; (with_reducible refine (slices_Clone_byte.calls A c ds ds _ (Kd.C_below HR.out HB.out) HC.out HCL.out).mono ?_); rintro e w5 ⟨v5, rfl, ho, hb⟩; have HB1 := Aside0.mk (below_step HB.out hb); have HO := Aside0.mk (Kd.R_lower ho (below_size HB.out)); clear HB ho hb) | (go_at_call 83; (with_reducible refine (strings_Repeat.calls _ s y _ HRP.out).mono ?_); rintro e w6 ⟨rfl, hb⟩; have HB2 := Aside0.mk (below_step HB1.out hb); have HO2 := Aside0.mk (Kd.R_below HO.out hb); clear HB1 HO hb) | ((with_reducible refine gate_builtin (b := .append) (xs := #[.tmp 22, .tmp 24]) rfl ?_); at_builtin; refine print_append_str (w0 := w) w.heap.size rfl (.tmp 22) (.tmp 24) 22 9 5 rfl Tryz.underlying22 Tryz.underlying9 (by kernel_rfl) _ ds y rfl rfl (Kd.own_of_R HO2.out) HB2.out HB2.out.size HLY.out ?_; intro v7 w7 ho hb hg; have HO3 := Aside0.mk ho; have HB3 := Aside0.mk hb; clear ho hb hg HO2 HB2) | (go_at_call 81; (with_reducible refine (impl_asLeast.own k _ (ds ++ bytesOf y) n true _ w HB3.out HO3.out HLZ.out HQ.out).mono ?_); rintro e w8 ⟨rfl, hb⟩; have HB := Aside0.mk hb; have BF := Aside0.mk (blk_below HF.out HB.out); have BE := Aside0.mk (blk_below HE.out HB.out); have hcf := blk_cell BF.out 0; have hcb := blk_cell BE.out 0; have hff := blk_frozen BF.out 0; have hfb := blk_frozen BE.out 0; have hcf2 := fun u => blk_cell (blk_far BF.out (p := ⟨gb, 0, none⟩) HNE.out u) 0; have hff2 := fun u => blk_frozen (blk_far BF.out (p := ⟨gb, 0, none⟩) HNE.out u) 0; clear hb HB3 HO3))
    (first | go_end0 | ((try simp only [Exit.inBlock, Exit.then]); refine bodyPost_ret (results_none rfl _ _ _) rfl ?_))
    exact ⟨rfl, blk_put (blk_far BF.out (p := ⟨gb, 0, none⟩) HNE.out _) 0 _ rfl, blk_far (blk_put BE.out 0 _ rfl) (p := ⟨gf, 0, none⟩) (Ne.symm HNE.out) _, ((impl_choose.KB.refl gf gb w).below HB.out |>.set ⟨gb, 0, none⟩ (.inr rfl) _).set ⟨gf, 0, none⟩ (.inl rfl) _, below_set (below_set (below_step H0.out HB.out) HGB.out) HGF.out⟩
   | true =>
    replace d2 := d2 rfl
    go_enter Tryz.func80, Tryz.ntmps80
    go_wp2_with (first | (go_at_call 82; (with_reducible refine (slices_Clone_byte.calls A c ds ds _ (Kd.C_below HR.out HB.out) HC.out HCL.out).mono ?_); rintro e w5 ⟨v5, rfl, ho, hb⟩; have HB1 := Aside0.mk (below_step HB.out hb); have HO := Aside0.mk (Kd.R_lower ho (below_size HB.out)); clear HB ho hb) | (go_at_call 83; (with_reducible refine (strings_Repeat.calls _ s y _ HRP.out).mono ?_); rintro e w6 ⟨rfl, hb⟩; have HB2 := Aside0.mk (below_step HB1.out hb); have HO2 := Aside0.mk (Kd.R_below HO.out hb); clear HB1 HO hb) | ((with_reducible refine gate_builtin (b := .append) (xs := #[.tmp 22, .tmp 24]) rfl ?_); at_builtin; refine print_append_str (w0 := w) w.heap.size rfl (.tmp 22) (.tmp 24) 22 9 5 rfl Tryz.underlying22 Tryz.underlying9 (by kernel_rfl) _ ds y rfl rfl (Kd.own_of_R HO2.out) HB2.out HB2.out.size HLY.out ?_; intro v7 w7 ho hb hg; have HO3 := Aside0.mk ho; have HB3 := Aside0.mk hb; clear ho hb hg HO2 HB2) | (go_at_call 81; (with_reducible refine (impl_asLeast.own k _ (ds ++ bytesOf y) n true _ w HB3.out HO3.out HLZ.out HQ.out).mono ?_); rintro e w8 ⟨rfl, hb⟩; have HB := Aside0.mk hb; have BF := Aside0.mk (blk_below HF.out HB.out); have BE := Aside0.mk (blk_below HE.out HB.out); have hcf := blk_cell BF.out 0; have hcb := blk_cell BE.out 0; have hff := blk_frozen BF.out 0; have hfb := blk_frozen BE.out 0; have hcf2 := fun u => blk_cell (blk_far BF.out (p := ⟨gb, 0, none⟩) HNE.out u) 0; have hff2 := fun u => blk_frozen (blk_far BF.out (p := ⟨gb, 0, none⟩) HNE.out u) 0; clear hb HB3 HO3))
    (first | go_end0 | ((try simp only [Exit.inBlock, Exit.then]); refine bodyPost_ret (results_none rfl _ _ _) rfl ?_))
    exact ⟨rfl, blk_put (blk_far BF.out (p := ⟨gb, 0, none⟩) HNE.out _) 0 _ rfl, blk_far (blk_put BE.out 0 _ rfl) (p := ⟨gf, 0, none⟩) (Ne.symm HNE.out) _, ((impl_choose.KB.refl gf gb w).below HB.out |>.set ⟨gb, 0, none⟩ (.inr rfl) _).set ⟨gf, 0, none⟩ (.inl rfl) _, below_set (below_set (below_step H0.out HB.out) HGB.out) HGF.out⟩
 have HH := H.out
 rw [if_neg c0] at HH
 subst HH
 clear H
 cases ok with
 | false =>
  clear c0
  go_enter Tryz.func80, Tryz.ntmps80
  go_wp2_with (first | (go_at_call 82; (with_reducible refine (slices_Clone_byte.calls A c ds ds _ (Kd.C_below HR.out HB.out) HC.out HCL.out).mono ?_); rintro e w5 ⟨v5, rfl, ho, hb⟩; have HB1 := Aside0.mk (below_step HB.out hb); have HO := Aside0.mk (Kd.R_lower ho (below_size HB.out)); clear HB ho hb) | (go_at_call 83; (with_reducible refine (strings_Repeat.calls _ s y _ HRP.out).mono ?_); rintro e w6 ⟨rfl, hb⟩; have HB2 := Aside0.mk (below_step HB1.out hb); have HO2 := Aside0.mk (Kd.R_below HO.out hb); clear HB1 HO hb) | ((with_reducible refine gate_builtin (b := .append) (xs := #[.tmp 22, .tmp 24]) rfl ?_); at_builtin; refine print_append_str (w0 := w) w.heap.size rfl (.tmp 22) (.tmp 24) 22 9 5 rfl Tryz.underlying22 Tryz.underlying9 (by kernel_rfl) _ ds y rfl rfl (Kd.own_of_R HO2.out) HB2.out HB2.out.size HLY.out ?_; intro v7 w7 ho hb hg; have HO3 := Aside0.mk ho; have HB3 := Aside0.mk hb; clear ho hb hg HO2 HB2) | (go_at_call 81; (with_reducible refine (impl_asLeast.own k _ (ds ++ bytesOf y) n false _ w HB3.out HO3.out HLZ.out HQ.out).mono ?_); rintro e w8 ⟨rfl, hb⟩; have HB := Aside0.mk hb; have BF := Aside0.mk (blk_below HF.out HB.out); have BE := Aside0.mk (blk_below HE.out HB.out); have hcf := blk_cell BF.out 0; have hcb := blk_cell BE.out 0; have hff := blk_frozen BF.out 0; have hfb := blk_frozen BE.out 0; have hcf2 := fun u => blk_cell (blk_far BF.out (p := ⟨gb, 0, none⟩) HNE.out u) 0; have hff2 := fun u => blk_frozen (blk_far BF.out (p := ⟨gb, 0, none⟩) HNE.out u) 0; clear hb HB3 HO3))
  (first | go_end0 | ((try simp only [Exit.inBlock, Exit.then]); refine bodyPost_ret (results_none rfl _ _ _) rfl ?_))
  exact ⟨rfl, BF.out, BE.out, (impl_choose.KB.refl gf gb w).below HB.out, below_step H0.out HB.out⟩
 | true =>
  by_cases c1 : 0 < n
  rotate_left
  · have d1 : decide (0 < n) = false := decide_eq_false c1
    clear c0 c1
    go_enter Tryz.func80, Tryz.ntmps80
    go_wp2_with (first | (go_at_call 82; (with_reducible refine (slices_Clone_byte.calls A c ds ds _ (Kd.C_below HR.out HB.out) HC.out HCL.out).mono ?_); rintro e w5 ⟨v5, rfl, ho, hb⟩; have HB1 := Aside0.mk (below_step HB.out hb); have HO := Aside0.mk (Kd.R_lower ho (below_size HB.out)); clear HB ho hb) | (go_at_call 83; (with_reducible refine (strings_Repeat.calls _ s y _ HRP.out).mono ?_); rintro e w6 ⟨rfl, hb⟩; have HB2 := Aside0.mk (below_step HB1.out hb); have HO2 := Aside0.mk (Kd.R_below HO.out hb); clear HB1 HO hb) | ((with_reducible refine gate_builtin (b := .append) (xs := #[.tmp 22, .tmp 24]) rfl ?_); at_builtin; refine print_append_str (w0 := w) w.heap.size rfl (.tmp 22) (.tmp 24) 22 9 5 rfl Tryz.underlying22 Tryz.underlying9 (by kernel_rfl) _ ds y rfl rfl (Kd.own_of_R HO2.out) HB2.out HB2.out.size HLY.out ?_; intro v7 w7 ho hb hg; have HO3 := Aside0.mk ho; have HB3 := Aside0.mk hb; clear ho hb hg HO2 HB2) | (go_at_call 81; (with_reducible refine (impl_asLeast.own k _ (ds ++ bytesOf y) n true _ w HB3.out HO3.out HLZ.out HQ.out).mono ?_); rintro e w8 ⟨rfl, hb⟩; have HB := Aside0.mk hb; have BF := Aside0.mk (blk_below HF.out HB.out); have BE := Aside0.mk (blk_below HE.out HB.out); have hcf := blk_cell BF.out 0; have hcb := blk_cell BE.out 0; have hff := blk_frozen BF.out 0; have hfb := blk_frozen BE.out 0; have hcf2 := fun u => blk_cell (blk_far BF.out (p := ⟨gb, 0, none⟩) HNE.out u) 0; have hff2 := fun u => blk_frozen (blk_far BF.out (p := ⟨gb, 0, none⟩) HNE.out u) 0; clear hb HB3 HO3))
    (first | go_end0 | ((try simp only [Exit.inBlock, Exit.then]); refine bodyPost_ret (results_none rfl _ _ _) rfl ?_))
    exact ⟨rfl, BF.out, BE.out, (impl_choose.KB.refl gf gb w).below HB.out, below_step H0.out HB.out⟩
  have d1 : decide (0 < n) = true := decide_eq_true c1
  have hft : found = true := by
   cases found with
   | false => exact absurd ⟨rfl, c1, .inl rfl⟩ c0
   | true => rfl
  subst hft
  have d2 : decide (n < best) = false := decide_eq_false fun hh => c0 ⟨rfl, c1, .inr hh⟩
  clear c0 c1
  go_enter Tryz.func80, Tryz.ntmps80
  go_wp2_with (first | (go_at_call 82; (with_reducible refine (slices_Clone_byte.calls A c ds ds _ (Kd.C_below HR.out HB.out) HC.out HCL.out).mono ?_); rintro e w5 ⟨v5, rfl, ho, hb⟩; have HB1 := Aside0.mk (below_step HB.out hb); have HO := Aside0.mk (Kd.R_lower ho (below_size HB.out)); clear HB ho hb) | (go_at_call 83; (with_reducible refine (strings_Repeat.calls _ s y _ HRP.out).mono ?_); rintro e w6 ⟨rfl, hb⟩; have HB2 := Aside0.mk (below_step HB1.out hb); have HO2 := Aside0.mk (Kd.R_below HO.out hb); clear HB1 HO hb) | ((with_reducible refine gate_builtin (b := .append) (xs := #[.tmp 22, .tmp 24]) rfl ?_); at_builtin; refine print_append_str (w0 := w) w.heap.size rfl (.tmp 22) (.tmp 24) 22 9 5 rfl Tryz.underlying22 Tryz.underlying9 (by kernel_rfl) _ ds y rfl rfl (Kd.own_of_R HO2.out) HB2.out HB2.out.size HLY.out ?_; intro v7 w7 ho hb hg; have HO3 := Aside0.mk ho; have HB3 := Aside0.mk hb; clear ho hb hg HO2 HB2) | (go_at_call 81; (with_reducible refine (impl_asLeast.own k _ (ds ++ bytesOf y) n true _ w HB3.out HO3.out HLZ.out HQ.out).mono ?_); rintro e w8 ⟨rfl, hb⟩; have HB := Aside0.mk hb; have BF := Aside0.mk (blk_below HF.out HB.out); have BE := Aside0.mk (blk_below HE.out HB.out); have hcf := blk_cell BF.out 0; have hcb := blk_cell BE.out 0; have hff := blk_frozen BF.out 0; have hfb := blk_frozen BE.out 0; have hcf2 := fun u => blk_cell (blk_far BF.out (p := ⟨gb, 0, none⟩) HNE.out u) 0; have hff2 := fun u => blk_frozen (blk_far BF.out (p := ⟨gb, 0, none⟩) HNE.out u) 0; clear hb HB3 HO3))
  (first | go_end0 | ((try simp only [Exit.inBlock, Exit.then]); refine bodyPost_ret (results_none rfl _ _ _) rfl ?_))
  exact ⟨rfl, BF.out, BE.out, (impl_choose.KB.refl gf gb w).below HB.out, below_step H0.out HB.out⟩
def impl_choose.T8 : Bool × List (List Nat × List Nat) := (true, [([], []), ([], []), ([1], [1]), ([], []), ([3], [3]), ([4], [4]), ([5], [5]), ([2, 6, 2], [2, 6]), ([], []), ([], []), ([], []), ([9, 10], [9, 10]), ([], []), ([], []), ([12, 13], [12, 13]), ([0, 7, 8, 11, 14, 7], [0, 7, 8, 11, 14])])
def impl_choose.B8 : List Nat := [0, 0, 2, 0, 8, 24, 56, 126, 0, 0, 0, 1536, 0, 0, 12288, 32767]
theorem impl_choose.tab8 : rtab .any (opsOf Tryz.f80 8) = impl_choose.T8 := by kernel_rfl
theorem impl_choose.bits8 : waitsOk impl_choose.T8.2 impl_choose.B8 = true := by kernel_rfl
theorem impl_choose.goesS {P : Program} {ops : Array Oper} {Q : Exit → Act → World → Prop} {oi : Oper} {N : Option Tmp} {a : Act} {w : World} {K : Act → World → Prop} {f : FuncId} {fn : Func} {c : Operand} {as_ : Array Operand} {ts : Array TypeId} {lb : Array Value} (hf : P.funcs[f]? = some fn) (hname : (fn.name == "runtime.NumGoroutine") = false) (hb : fn.body.isSome = true) (args : Array Value)
 (hw : Region.wanted oi (yielded ops a.tmps) = true) (hN : oi.dst = N) (hop : oi.op = .call { callee := .value c, args := as_, argTypes := ts }) (hc : a.eval c = .func (.func f) #[] lb) (hargs : as_.map a.eval = args)
 (h : Calls P f (args ++ lb) w fun e w' => ∃ v, e = .returned v ∧ K (a.put N v) w') : if Region.wanted oi (yielded ops a.tmps) = true then Oper.wp P oi a w K Q else K (a.put N undef) w := by
 refine call_ f (args ++ lb) hw hN ?_ h
 have he := enters_ hf hname hb (args ++ lb) w
 unfold execOp
 simp [hop, resolve, Deferred.ofValue, invoke, hc, hargs, he]
set_option maxHeartbeats 16000000 in
set_option maxRecDepth 100000 in
theorem impl_choose.calls (k : Nat) (w0 : World) (gf gb gc : Nat) (hgf : w0.heap.size ≤ gf) (hgb : w0.heap.size ≤ gb) : ∀ (n : Nat) (ds : List Int) (most : Nat) (s p best : Int) (found : Bool) (r : Int × Bool) (A : Option Addr) (c : Nat) (w : World)
 (_ : Below w0.heap.size w0 w) (_ : w.heap[gf]? = some (.cells #[.bool found] 4 (0, 0))) (_ : w.heap[gb]? = some (.cells #[.int .i64 best] 3 (0, 0)))
 (_ : w.heap[gc]? = some (.cells #[.func (.func 80) #[] #[.pointer (some ⟨gf, 0, none⟩), .pointer (some ⟨gb, 0, none⟩), .pointer (some ⟨gc, 0, none⟩)]] 55 (0, 0)))
 (_ : Kd.C (Kd.int .u8) w A ds.length ds) (_ : ds.length ≤ c) (_ : ∀ ad, A = some ad → ad.block ≠ gf ∧ ad.block ≠ gb) (_ : impl_choose.f k n ds most s p (best, found) = some r),
 Calls Tryz.prog 80 #[.slice A ds.length c, .int .i64 (most : Int), .int .i64 s, .int .i64 p, .pointer (some ⟨gf, 0, none⟩), .pointer (some ⟨gb, 0, none⟩), .pointer (some ⟨gc, 0, none⟩)] w fun e w' => e = .returned (.tuple #[]) ∧ w'.heap[gf]? = some (.cells #[.bool r.2] 4 (0, 0)) ∧ w'.heap[gb]? = some (.cells #[.int .i64 r.1] 3 (0, 0)) ∧ impl_choose.KB gf gb w w' ∧ Below w0.heap.size w0 w' := by
 intro n
 induction n with
 | zero => intro ds most s p best found r A c w _ _ _ _ _ _ _ h; exact absurd h (by simp [impl_choose.f])
 | succ n ih =>
 intro ds most s p best found r A c w hb hf hbe hcb hr hc hA h
 unfold impl_choose.f at h
 by_cases hg : (0 ≤ s ∧ s ≤ 108) ∧ (1 ≤ p ∧ p ≤ 1000000000000) ∧ (1 ≤ most ∧ most ≤ 9) ∧ ds.length ≤ 60
 rotate_left
 · exact none_ (if_neg hg) h
 rw [if_pos hg] at h
 obtain ⟨⟨hs0, hs1⟩, ⟨hp0, hp1⟩, ⟨hm0, hm1⟩, hd⟩ := hg
 by_cases hp : p = 1
 · rw [if_pos hp] at h
   subst hp
   exact impl_choose.leaf_calls k w0 gf gb gc hgf hgb ds most s best found r A c w hs0 hs1 hd hb hf hbe hr hc h
 rw [if_neg hp] at h
 have c1 : decide (p = 1) = false := decide_eq_false hp
 have c2 : (p = 1) = False := eq_false hp
 have hne : gf ≠ gb := blk_ne hf hbe (by decide)
 have hcf : gc ≠ gf := blk_ne hcb hf (by decide)
 have hcb2 : gc ≠ gb := blk_ne hcb hbe (by decide)
 obtain ⟨m, rfl⟩ : ∃ m, most = m + 1 := ⟨most - 1, by omega⟩
 have H0 := Aside0.mk hb
 have HF := Aside0.mk hf
 have HE := Aside0.mk hbe
 have HG := Aside0.mk hcb
 have HR := Aside0.mk hr
 have HC := Aside0.mk hc
 have HAD := Aside0.mk hA
 have HGF := Aside0.mk hgf
 have HGB := Aside0.mk hgb
 have HNE := Aside0.mk hne
 have HN1 := Aside0.mk hcf
 have HN2 := Aside0.mk hcb2
 have HS := Aside0.mk (And.intro hs0 hs1)
 have HP := Aside0.mk (And.intro hp0 hp1)
 have HM := Aside0.mk hm1
 have HD := Aside0.mk hd
 have IH := Aside0.mk ih
 have HK := Aside0.mk (impl_choose.KB.refl gf gb w)
 have H := Aside0.mk (show impl_choose.loop (impl_choose.f k n) ds s p m (best, found) = some r from h)
 clear hb hf hbe hcb hr hc hA hgf hgb hne hcf hcb2 hs0 hs1 hp0 hp1 hm0 hm1 hd ih h hp
 go_enter Tryz.func80, Tryz.ntmps80
 go_wp2
 go_loopg [13] (m + 2) (fun kq v13 w' => ∃ (j : Nat) (b : Int) (fd : Bool), v13 = .int .i64 ((j : Int) + 1) ∧ Aside0 (j + 2 = kq) ∧ Aside0 (j ≤ m) ∧ Aside0 (impl_choose.loop (impl_choose.f k n) ds s p j (b, fd) = some r) ∧ Aside0 (w'.heap[gf]? = some (.cells #[.bool fd] 4 (0, 0))) ∧ Aside0 (w'.heap[gb]? = some (.cells #[.int .i64 b] 3 (0, 0))) ∧ Aside0 (impl_choose.KB gf gb w w') ∧ Aside0 (Below w0.heap.size w0 w'))
 case atStart => exact ⟨m, best, found, rfl, ⟨rfl⟩, ⟨Nat.le_refl _⟩, H, HF, HE, HK, H0⟩
 case round =>
  clear H HF HE HK H0
  obtain ⟨j, b, fd, rfl, HJ, HJM, HA, BF, BE, HK, HB⟩ := hrel
  cases j with
  | zero =>
   have d1 : decide ((1 : Int) < (((0 : Nat) : Int) + 1)) = false := by decide
   have hx : (b, fd) = r := Option.some.inj HA.out
   subst hx
   go_wp2
   (first | go_end0 | ((try simp only [Exit.inBlock, Exit.then]); refine bodyPost_ret (results_none rfl _ _ _) rfl ?_))
   exact ⟨rfl, BF.out, BE.out, HK.out, HB.out⟩
  | succ j =>
   obtain ⟨D, hD⟩ : ∃ D : Int, D = ((j + 1 : Nat) : Int) + 1 := ⟨_, rfl⟩
   rw [← hD]
   have HDD := Aside0.mk hD
   have d1 : decide (1 < D) = true := decide_eq_true (by omega)
   have d2 : (D = 0) = False := eq_false (by omega)
   have d3 : decide (D = 0) = false := decide_eq_false (by omega)
   have w1 : wrap64 (D - 1) = (j : Int) + 1 := by simp [wrap64]; have := HJM.out; have := HM.out; omega
   have h := HA.out
   unfold impl_choose.loop at h
   have hDc : ((j + 2 : Nat) : Int) = D := by omega
   have hDx : ((j + 50 : Nat) : Int) = 48 + D := by omega
   rw [hDc, hDx] at h
   have hJM := HJM.out
   have hM := HM.out
   have hP := HP.out
   have hS := HS.out
   have w2 : wrap64 (48 + D) = 48 + D := by simp [wrap64]; omega
   have w3 : (48 + D) % 256 = 48 + D := by omega
   have w4 : D ≤ s → wrap64 (s - D) = s - D := by intro hh; simp [wrap64]; omega
   have hq0 : 0 ≤ Int.tdiv p D := Int.tdiv_nonneg (by omega) (by omega)
   have hq1 : Int.tdiv p D ≤ p := by
    rw [Int.tdiv_eq_ediv_of_nonneg (by omega)]
    exact Int.ediv_le_self _ (by omega)
   have w5 : wrap64 (Int.tdiv p D) = Int.tdiv p D := by simp [wrap64]; omega
   clear hD hDc hDx hJM hM hP hS HA hq0 hq1
   by_cases cc : Int.tmod p D = 0 ∧ D ≤ s
   · rw [if_pos cc] at h
     obtain ⟨⟨b2, fd2⟩, hF, h⟩ := Option.bind_eq_some_iff.mp h
     have t1 : decide (Int.tmod p D = 0) = true := decide_eq_true cc.1
     have t2 : (D ≤ s) = True := eq_true cc.2
     have t3 : decide (D ≤ s) = true := decide_eq_true cc.2
     have t4 : (Int.tmod p D = 0) = True := eq_true cc.1
     have t5 : (Int.tmod p D == 0) = true := by rw [cc.1]; rfl
     replace w4 := w4 cc.2
     obtain ⟨X, hX⟩ : ∃ X, X = 48 + D := ⟨_, rfl⟩
     obtain ⟨q, hq⟩ : ∃ q, q = Int.tdiv p D := ⟨_, rfl⟩
     obtain ⟨S2, hS2⟩ : ∃ S2, S2 = s - D := ⟨_, rfl⟩
     rw [← hX, ← hq, ← hS2] at hF
     rw [← hX] at w2 w3
     rw [← hq] at w5
     rw [← hS2] at w4
     have HA2 := Aside0.mk h
     have HFF := Aside0.mk hF
     have HMD := Aside0.mk (show ((j + 2 : Nat) : Int) = D by have := HDD.out; omega)
     have HCL := Aside0.mk (show slices_Clone_byte.f ds = some ds by unfold slices_Clone_byte.f; rw [if_pos (by have := HD.out; omega)])
     have HLA := Aside0.mk (show (ds.length + ([X] : List Int).length) * 1 ≤ 140737488355328 by have := HD.out; simp; omega)
     clear h hF cc
     have HX := Aside0.mk hX
     have x4 : IntKind.u8.wrap X = X := by first | exact w3 | (simp only [IntKind.wrap]; exact w3) | (simp [IntKind.wrap]; omega)
     have x1 : wrap64 (48 + D) = X := by rw [← hX]; exact w2
     have x2 : wrap64 (Int.tdiv p D) = q := by rw [← hq]; exact w5
     have x3 : wrap64 (s - D) = S2 := by rw [← hS2]; exact w4
     clear hX hq hS2 w2 w4 w5
     have BG := Aside0.mk ((HK.out.2 gc (blk_lt HG.out) HN1.out HN2.out).trans HG.out)
     have HR8 := Aside0.mk (Kd.C_drew (HK.out.c HR.out HAD.out))
     go_wp2
     replace BF := Aside0.mk (blk_drew BF.out)
     replace BE := Aside0.mk (blk_drew BE.out)
     replace BG := Aside0.mk (blk_drew BG.out)
     replace HB := Aside0.mk (below_drew1 HB.out)
     replace HK := Aside0.mk (HK.out.below (below_drew (Below.refl _ _)))
     have hcell := blk_cell BG.out 0
     refine start_ (n := 16) (S := fun w' => w'.cell? ⟨gc, 0, none⟩ = some (Value.func (.func 80) #[] #[.pointer (some ⟨gf, 0, none⟩), .pointer (some ⟨gb, 0, none⟩), .pointer (some ⟨gc, 0, none⟩)])) (ds := [15]) #[false, false, false, false, false, false, false, false, false, false, false, false, false, false, false, false] (by kernel_rfl) rfl rfl hcell (fun hHeld => ?_); refine with_tabW impl_choose.tab8 impl_choose.bits8 (fun HT_ HW_ => ?_)
     generalize wr.drew = w8 at BF BE BG HB HK HR8 hcell hHeld ⊢
     have HB8 := Aside0.mk (Below.refl w8.heap.size w8)
     have hst := fun w' (h : Below w8.heap.size w8 w') => blk_cell (blk_below BG.out h) 0
     refine pure_ (i := 1) (N := some 59) (v := ?_) (a' := ?_) #[false, true, false, false, false, false, false, false, false, false, false, false, false, false, false, false] rfl rfl (any_of HT_.out (by kernel_rfl)) (fun _ _ _ h => h) (Or.inl ⟨by rfl, ?_⟩) ?_ ?_
     rotate_left
     · intro w'
       go_simp
       with_reducible rfl
     rotate_left
     · simp only [Act.put, List.setIfInBounds_toArray, List.set_cons_zero, List.set_cons_succ, i64_w, i32_w]
       rfl
     refine pure_ (i := 3) (N := some 61) (v := ?_) (a' := ?_) #[false, true, false, true, false, false, false, false, false, false, false, false, false, false, false, false] rfl rfl (any_of HT_.out (by kernel_rfl)) (fun _ _ _ h => h) (Or.inl ⟨by rfl, ?_⟩) ?_ ?_
     rotate_left
     · intro w'
       go_simp
       with_reducible rfl
     rotate_left
     · simp only [Act.put, List.setIfInBounds_toArray, List.set_cons_zero, List.set_cons_succ, i64_w, i32_w]
       rfl
     refine pure_ (i := 4) (N := some 62) (v := ?_) (a' := ?_) #[false, true, false, true, true, false, false, false, false, false, false, false, false, false, false, false] rfl rfl (any_of HT_.out (by kernel_rfl)) (fun _ _ _ h => h) (Or.inl ⟨by rfl, ?_⟩) ?_ ?_
     rotate_left
     · intro w'
       go_simp
       with_reducible rfl
     rotate_left
     · simp only [Act.put, List.setIfInBounds_toArray, List.set_cons_zero, List.set_cons_succ, i64_w, i32_w]
       rfl
     refine pure_ (i := 5) (N := some 63) (v := ?_) (a' := ?_) #[false, true, false, true, true, true, false, false, false, false, false, false, false, false, false, false] rfl rfl (any_of HT_.out (by kernel_rfl)) (fun _ _ _ h => h) (Or.inl ⟨by rfl, ?_⟩) ?_ ?_
     rotate_left
     · intro w'
       go_simp
       with_reducible rfl
     rotate_left
     · simp only [Act.put, List.setIfInBounds_toArray, List.set_cons_zero, List.set_cons_succ, i64_w, i32_w]
       rfl
     refine pure_ (i := 8) (N := some 66) (v := ?_) (a' := ?_) #[false, true, false, true, true, true, false, false, true, false, false, false, false, false, false, false] rfl rfl (any_of HT_.out (by kernel_rfl)) (fun _ _ _ h => h) (Or.inl ⟨by rfl, ?_⟩) ?_ ?_
     rotate_left
     · intro w'
       go_simp
       with_reducible rfl
     rotate_left
     · simp only [Act.put, List.setIfInBounds_toArray, List.set_cons_zero, List.set_cons_succ, i64_w, i32_w]
       rfl
     refine pure_ (i := 9) (N := some 67) (v := ?_) (a' := ?_) #[false, true, false, true, true, true, false, false, true, true, false, false, false, false, false, false] rfl rfl (any_of HT_.out (by kernel_rfl)) (fun _ _ _ h => h) (Or.inl ⟨by rfl, ?_⟩) ?_ ?_
     rotate_left
     · intro w'
       go_simp
       with_reducible rfl
     rotate_left
     · simp only [Act.put, List.setIfInBounds_toArray, List.set_cons_zero, List.set_cons_succ, i64_w, i32_w]
       rfl
     refine pure_ (i := 10) (N := some 68) (v := ?_) (a' := ?_) #[false, true, false, true, true, true, false, false, true, true, true, false, false, false, false, false] rfl rfl (any_of HT_.out (by kernel_rfl)) (fun _ _ _ h => h) (Or.inl ⟨by rfl, ?_⟩) ?_ ?_
     rotate_left
     · intro w'
       go_simp
       with_reducible rfl
     rotate_left
     · simp only [Act.put, List.setIfInBounds_toArray, List.set_cons_zero, List.set_cons_succ, i64_w, i32_w]
       rfl
     refine pure_ (i := 11) (N := some 69) (v := ?_) (a' := ?_) #[false, true, false, true, true, true, false, false, true, true, true, true, false, false, false, false] rfl rfl (any_of HT_.out (by kernel_rfl)) (fun _ _ _ h => h) (Or.inl ⟨by rfl, ?_⟩) ?_ ?_
     rotate_left
     · intro w'
       go_simp
       with_reducible rfl
     rotate_left
     · simp only [Act.put, List.setIfInBounds_toArray, List.set_cons_zero, List.set_cons_succ, i64_w, i32_w]
       rfl
     refine pure_ (i := 12) (N := some 70) (v := ?_) (a' := ?_) #[false, true, false, true, true, true, false, false, true, true, true, true, true, false, false, false] rfl rfl (any_of HT_.out (by kernel_rfl)) (fun _ _ _ h => h) (Or.inl ⟨by rfl, ?_⟩) ?_ ?_
     rotate_left
     · intro w'
       go_simp
       with_reducible rfl
     rotate_left
     · simp only [Act.put, List.setIfInBounds_toArray, List.set_cons_zero, List.set_cons_succ, i64_w, i32_w]
       rfl
     refine pure_ (i := 13) (N := some 71) (v := ?_) (a' := ?_) #[false, true, false, true, true, true, false, false, true, true, true, true, true, true, false, false] rfl rfl (any_of HT_.out (by kernel_rfl)) (fun _ _ _ h => h) (Or.inl ⟨by rfl, ?_⟩) ?_ ?_
     rotate_left
     · intro w'
       go_simp
       with_reducible rfl
     rotate_left
     · simp only [Act.put, List.setIfInBounds_toArray, List.set_cons_zero, List.set_cons_succ, i64_w, i32_w]
       rfl
     refine pure_ (i := 14) (N := some 72) (v := ?_) (a' := ?_) #[false, true, false, true, true, true, false, false, true, true, true, true, true, true, true, false] rfl rfl (any_of HT_.out (by kernel_rfl)) (fun _ _ _ h => h) (Or.inl ⟨by rfl, ?_⟩) ?_ ?_
     rotate_left
     · intro w'
       go_simp
       with_reducible rfl
     rotate_left
     · simp only [Act.put, List.setIfInBounds_toArray, List.set_cons_zero, List.set_cons_succ, i64_w, i32_w]
       rfl
     refine take_ (i := 0) (N := some 58) (v := ?_) (a' := ?_) #[true, true, false, true, true, true, false, false, true, true, true, true, true, true, true, false] rfl rfl (take_ofW HT_.out HW_.out (by kernel_rfl)) (fun _ _ _ h => h) (Or.inl ⟨by rfl, ?_⟩) hHeld ?_ ?_
     rotate_left
     · rintro w' s0
       go_simp
       with_reducible rfl
     rotate_left
     · simp only [Act.put, List.setIfInBounds_toArray, List.set_cons_zero, List.set_cons_succ, i64_w, i32_w]
       rfl
     refine join_ (σ := Value × Value) 2 #[true, true, true, true, true, true, true, false, true, true, true, true, true, true, true, false] (fun s_ => [(60, s_.1), (64, s_.2)]) (fun s_ w' => (Kd.R (Kd.int .u8) 5 w' w8.heap.size (fun _ => True) s_.1 ds) ∧ (Kd.R (Kd.int .u8) 5 w' w8.heap.size (fun _ => True) s_.2 [X]) ∧ (Below w8.heap.size w8 w')) ?_ ?_
     rotate_left
     · intro hCont
       refine two_ (i := 2) (j := 6) (Ni := some 60) (Nj := some 64) #[true, true, true, true, true, true, false, false, true, true, true, true, true, true, true, false] #[true, true, false, true, true, true, true, false, true, true, true, true, true, true, true, false] rfl rfl rfl rfl (two_of HT_.out (by kernel_rfl)) (by decide) (by decide) (fun K hK => ?_) (fun K hK => ?_)
       · skip
         refine goes_ Tryz.func82 (by kernel_rfl) rfl #[.slice A ds.length c] (by rfl) rfl rfl (by (try simp only [List.map_toArray, List.map_cons, List.map_nil]); first | done | rfl) ?_
         with_reducible refine (slices_Clone_byte.calls A c ds ds _ (Kd.C_below HR8.out HB8.out) HC.out HCL.out).mono ?_
         rintro e w9 ⟨v60, rfl, ho, hb⟩
         refine ⟨_, rfl, ?_⟩
         have HO60 := Aside0.mk (Kd.R_lower ho (below_size HB8.out))
         replace HB8 := Aside0.mk (below_step HB8.out hb)
         clear ho hb
         refine hK.out _ _ (hst _ HB8.out) (fun hHeld => ?_)
         clear hK K
         refine norm_ (a' := ?_) ?_ ?_
         rotate_left
         · show Act.put _ (some 60) _ = _
           simp only [Act.put, List.setIfInBounds_toArray, List.set_cons_zero, List.set_cons_succ, i64_w, i32_w]
           rfl
         refine one_ (i := 6) (N := some 64) #[true, true, true, true, true, true, true, false, true, true, true, true, true, true, true, false] rfl rfl (one_of HT_.out (by kernel_rfl)) (by decide) (fun K hK => ?_)
         refine Kd.R_lit_step (Kd.int .u8) (w0 := w8) w8.heap.size 5 ?hg (N := 64) ?hd (xs := ([X] : List Int)) (inner := [.int .u8 X]) (ok := fun _ => True) (okp := fun _ => True) ?hr ?hp (fun _ hk => hk) trivial HB8.out (below_size HB8.out) (by simp) ?_; (case hd => rfl); (case hg => rfl); (case hr => first | (go_simp; done) | (go_simp; rfl)); (case hp => exact (Reps.one (show Kd.M (Kd.int .u8) _ _ _ X [.int .u8 X] from rfl) (Reps.none _ _)))
         intro v64 w10 ho hb hg_ hnew_
         have HO64 := Aside0.mk ho
         replace HO60 := Aside0.mk (Kd.R_grown HO60.out hg_ (by simp))
         replace HB8 := Aside0.mk hb
         clear ho hb hg_ hnew_
         refine hK.out _ _ (hst _ HB8.out) (fun hHeld => ?_)
         clear hK K
         refine norm_ (a' := ?_) ?_ ?_
         rotate_left
         · show Act.put _ (some 64) _ = _
           simp only [Act.put, List.setIfInBounds_toArray, List.set_cons_zero, List.set_cons_succ, i64_w, i32_w]
           rfl
         exact norm_ (by simp only [putAll, Act.put, List.setIfInBounds_toArray, List.set_cons_zero, List.set_cons_succ]) (hCont (v60, v64) _ ⟨HO60.out, HO64.out, HB8.out⟩)
       skip
       refine Kd.R_lit_step (Kd.int .u8) (w0 := w8) w8.heap.size 5 ?hg (N := 64) ?hd (xs := ([X] : List Int)) (inner := [.int .u8 X]) (ok := fun _ => True) (okp := fun _ => True) ?hr ?hp (fun _ hk => hk) trivial HB8.out (below_size HB8.out) (by simp) ?_; (case hd => rfl); (case hg => rfl); (case hr => first | (go_simp; done) | (go_simp; rfl)); (case hp => exact (Reps.one (show Kd.M (Kd.int .u8) _ _ _ X [.int .u8 X] from rfl) (Reps.none _ _)))
       intro v64 w10 ho hb hg_ hnew_
       have HO64 := Aside0.mk ho
       replace HB8 := Aside0.mk hb
       clear ho hb hg_ hnew_
       refine hK.out _ _ (hst _ HB8.out) (fun hHeld => ?_)
       clear hK K
       refine norm_ (a' := ?_) ?_ ?_
       rotate_left
       · show Act.put _ (some 64) _ = _
         simp only [Act.put, List.setIfInBounds_toArray, List.set_cons_zero, List.set_cons_succ, i64_w, i32_w]
         rfl
       refine one_ (i := 2) (N := some 60) #[true, true, true, true, true, true, true, false, true, true, true, true, true, true, true, false] rfl rfl (one_of HT_.out (by kernel_rfl)) (by decide) (fun K hK => ?_)
       refine goes_ Tryz.func82 (by kernel_rfl) rfl #[.slice A ds.length c] (by rfl) rfl rfl (by (try simp only [List.map_toArray, List.map_cons, List.map_nil]); first | done | rfl) ?_
       with_reducible refine (slices_Clone_byte.calls A c ds ds _ (Kd.C_below HR8.out HB8.out) HC.out HCL.out).mono ?_
       rintro e w9 ⟨v60, rfl, ho, hb⟩
       refine ⟨_, rfl, ?_⟩
       have HO60 := Aside0.mk (Kd.R_lower ho (below_size HB8.out))
       replace HO64 := Aside0.mk (Kd.R_below HO64.out hb)
       replace HB8 := Aside0.mk (below_step HB8.out hb)
       clear ho hb
       refine hK.out _ _ (hst _ HB8.out) (fun hHeld => ?_)
       clear hK K
       refine norm_ (a' := ?_) ?_ ?_
       rotate_left
       · show Act.put _ (some 60) _ = _
         simp only [Act.put, List.setIfInBounds_toArray, List.set_cons_zero, List.set_cons_succ, i64_w, i32_w]
         rfl
       exact norm_ (by simp only [putAll, Act.put, List.setIfInBounds_toArray, List.set_cons_zero, List.set_cons_succ]) (hCont (v60, v64) _ ⟨HO60.out, HO64.out, HB8.out⟩)
     rintro ⟨v60, v64⟩ w11 ⟨h0_, h1_, h2_⟩
     simp only [] at h0_ h1_
     obtain ⟨A64, c64, rfl, hc64, hC64⟩ := Kd.R_reads h1_
     have HO60 := Aside0.mk h0_
     have HC64 := Aside0.mk hC64
     replace HB8 := Aside0.mk h2_
     clear h0_ h1_ h2_ hc64 hC64
     have hHeld := hst _ HB8.out
     refine norm_ (a' := ?_) ?_ ?_
     rotate_left
     · simp only [putAll, Act.put, List.setIfInBounds_toArray, List.set_cons_zero, List.set_cons_succ]
       rfl
     refine one_ (i := 7) (N := some 65) #[true, true, true, true, true, true, true, true, true, true, true, true, true, true, true, false] rfl rfl (one_of HT_.out (by kernel_rfl)) (by decide) (fun K hK => ?_)
     refine Kd.R_append_rows_step (Kd.int .u8) (w0 := w8) w8.heap.size (by rfl) (.tmp 60) (.tmp 64) 22 5 (.int .u8 0) 1 rfl Tryz.underlying22 (by kernel_rfl) rfl (by decide) (by omega) v60 ds [X] _ _ _ (fun _ => True) (fun _ => False) rfl rfl HO60.out HC64.out (fun _ _ h => h) (fun _ h => h.elim) (fun _ _ => trivial) HB8.out (below_size HB8.out) HLA.out ?_
     intro v65 w12 ho hb hg hat
     obtain ⟨A65, c65, rfl, hc65, hC65⟩ := Kd.R_reads ho
     have HO65 := Aside0.mk ho
     have HC65 := Aside0.mk hC65
     have Hc65 := Aside0.mk hc65
     replace HB8 := Aside0.mk hb
     clear ho hb hg hat hc65 hC65
     refine hK.out _ _ (hst _ HB8.out) (fun hHeld => ?_)
     clear hK K
     refine norm_ (a' := ?_) ?_ ?_
     rotate_left
     · show Act.put _ (some 65) _ = _
       simp only [Act.put, List.setIfInBounds_toArray, List.set_cons_zero, List.set_cons_succ, i64_w, i32_w]
       rfl
     have BF12 := blk_below BF.out HB8.out
     have BE12 := blk_below BE.out HB8.out
     have BG12 := blk_below BG.out HB8.out
     have hA65 : ∀ ad, A65 = some ad → ad.block ≠ gf ∧ ad.block ≠ gb := by
      rintro ad rfl
      have hb_ := own_base (Kd.own_of_R HO65.out) ad.block (by simp [Value.ownBlock])
      have := blk_lt BF.out; have := blk_lt BE.out
      constructor <;> omega
     have hcall := IH.out (ds ++ [X]) (j + 2) S2 q b fd (b2, fd2) A65 c65 w12 (below_step HB.out HB8.out) BF12 BE12 BG12 HC65.out Hc65.out hA65 HFF.out
     rw [HMD.out] at hcall
     have HCALL := Aside0.mk hcall
     clear hcall BF12 BE12 BG12 hA65
     refine last_ (i := 15) (N := some 73) #[true, true, true, true, true, true, true, true, true, true, true, true, true, true, true, true] rfl rfl (one_of HT_.out (by kernel_rfl)) (by decide) (fun K hK => ?_)
     refine impl_choose.goesS Tryz.func80 (by kernel_rfl) rfl #[.slice A65 (ds ++ [X]).length c65, .int .i64 D, .int .i64 S2, .int .i64 q] (by rfl) rfl rfl (by rfl) (by go_simp) ?_
     refine HCALL.out.mono ?_
     rintro e w13 ⟨rfl, hf_, hb_, hk_, hw_⟩
     refine ⟨_, rfl, ?_⟩
     refine hK.out _ _ ?_
     clear hK K
     refine norm_ (a' := ?_) ?_ ?_
     rotate_left
     · show Act.put _ (some 73) _ = _
       simp only [Act.put, List.setIfInBounds_toArray, List.set_cons_zero, List.set_cons_succ, i64_w, i32_w]
       rfl
     refine done_ (done_of HT_.out (by kernel_rfl)) ?_
     try go_wp2
     go_roundg (gk - 1)
     case measure => have := HJ.out; omega
     case rel => exact ⟨j, b2, fd2, by first | rfl | rw [w1], ⟨by have := HJ.out; omega⟩, ⟨by have := HJM.out; omega⟩, HA2, ⟨hf_⟩, ⟨hb_⟩, ⟨(HK.out.below HB8.out).trans hk_⟩, ⟨hw_⟩⟩
   rw [if_neg cc] at h
   have HA2 := Aside0.mk h
   clear h w2 w3 w4 w5
   by_cases t0 : Int.tmod p D = 0
   · have t1 : decide (Int.tmod p D = 0) = true := decide_eq_true t0
     have t2 : (D ≤ s) = False := eq_false fun hh => cc ⟨t0, hh⟩
     have t3 : decide (D ≤ s) = false := decide_eq_false fun hh => cc ⟨t0, hh⟩
     clear cc
     go_wp2
     go_roundg (gk - 1)
     case measure => have := HJ.out; omega
     case rel => exact ⟨j, b, fd, by rw [w1], ⟨by have := HJ.out; omega⟩, ⟨by have := HJM.out; omega⟩, HA2, BF, BE, HK, HB⟩
   have t1 : decide (Int.tmod p D = 0) = false := decide_eq_false t0
   have t2 : (Int.tmod p D = 0) = False := eq_false t0
   clear cc t0
   go_wp2
   go_roundg (gk - 1)
   case measure => have := HJ.out; omega
   case rel => exact ⟨j, b, fd, by rw [w1], ⟨by have := HJ.out; omega⟩, ⟨by have := HJM.out; omega⟩, HA2, BF, BE, HK, HB⟩
theorem impl_choose.run_store_func {P : Program} {w : World} {a : Addr} {m : Mode} (f : Fn) (rs lb : Array Value) : (store a (.func f rs lb) m).run P w = stored P w a (.func f rs lb) m := run_store P w a _ m rfl
attribute [local go_sem] impl_choose.run_store_func
set_option maxHeartbeats 16000000 in
set_option maxRecDepth 100000 in
theorem impl_LeastBoth.calls (k : Nat) (a0 a1 : Int) (r1 : Int) (r2 : Bool) (w : World) (h : impl_LeastBoth.f k a0 a1 = some (r1, r2)) :
 Calls Tryz.prog 26 #[.int .i64 a0, .int .i64 a1] w fun e w' => e = .returned (.tuple #[.int .i64 r1, .bool r2]) ∧ Below w.heap.size w w' := by
 unfold impl_LeastBoth.f at h
 obtain ⟨t1, h1, h⟩ := Option.bind_eq_some_iff.mp h
 have H1 := Aside0.mk h1
 have HB := Aside0.mk (Below.refl w.heap.size w)
 clear h1
 cases t1 with
 | false =>
  simp only [Bool.false_eq_true, if_false, Option.some.injEq, Prod.mk.injEq] at h
  obtain ⟨rfl, rfl⟩ := h
  go_enter Tryz.func26, Tryz.ntmps26
  go_wp2_with (first | (go_at_call 66; (with_reducible refine (impl_isSum.calls a0 false _ H1.out).mono ?_); rintro e w' ⟨rfl, ⟨nd, rfl⟩⟩))
  go_ret2
  exact ⟨rfl, by repeat (first | exact HB.out | apply pw_below_drewN | apply below_drew1)⟩
 | true =>
  simp only [if_true] at h
  obtain ⟨t2, h2, h⟩ := Option.bind_eq_some_iff.mp h
  have H2 := Aside0.mk h2
  clear h2
  cases t2 with
  | false =>
   simp only [Bool.false_eq_true, if_false, Option.some.injEq, Prod.mk.injEq] at h
   obtain ⟨rfl, rfl⟩ := h
   go_enter Tryz.func26, Tryz.ntmps26
   go_wp2_with (first | (go_at_call 66; (with_reducible refine (impl_isSum.calls a0 true _ H1.out).mono ?_); rintro e w' ⟨rfl, ⟨nd, rfl⟩⟩) | (go_at_call 79; (with_reducible refine (impl_isProduct.calls a1 false _ H2.out).mono ?_); rintro e w' ⟨rfl, ⟨nd2, rfl⟩⟩))
   go_ret2
   exact ⟨rfl, by repeat (first | exact HB.out | apply pw_below_drewN | apply below_drew1)⟩
  | true =>
   simp only [if_true] at h
   have H := Aside0.mk h
   clear h
   go_enter Tryz.func26, Tryz.ntmps26
   go_wp2_with (first | (go_at_call 66; (with_reducible refine (impl_isSum.calls a0 true _ H1.out).mono ?_); rintro e w' ⟨rfl, ⟨nd, rfl⟩⟩) | (go_at_call 79; (with_reducible refine (impl_isProduct.calls a1 true _ H2.out).mono ?_); rintro e w' ⟨rfl, ⟨nd2, rfl⟩⟩) | ((with_reducible refine gate_dst (N := 6) rfl ?_); refine box_event ?hg (N := 6) ?hd (cs := #[.int .i64 0]) (t := 3) ?hr ?_; (case hd => rfl); (case hg => rfl); (case hr => first | (go_simp; done) | (go_simp; rfl)); intro g6 hg w6_ hbox hb; have B6 := Aside0.mk hbox; have HB6 := Aside0.mk (below_step (pw_below_drewN HB.out _) hb); have hc6 := blk_cell hbox 0; have hf6 := blk_frozen hbox 0; have HG6 := Aside0.mk hg; clear hg hbox hb) | ((with_reducible refine gate_dst (N := 7) rfl ?_); refine box_event ?hg (N := 7) ?hd (cs := #[.bool false]) (t := 4) ?hr ?_; (case hd => rfl); (case hg => rfl); (case hr => first | (go_simp; done) | (go_simp; rfl)); intro g7 hg w7_ hbox hb; have B7 := Aside0.mk hbox; have B67 := Aside0.mk (blk_below B6.out hb); have HB7 := Aside0.mk (below_step HB6.out hb); have hc7 := blk_cell hbox 0; have hf7 := blk_frozen hbox 0; have hc67 := blk_cell B67.out 0; have hf67 := blk_frozen B67.out 0; have HG7 := Aside0.mk hg; have HN67 := Aside0.mk (blk_ne B67.out B7.out (by decide)); have hc7s := fun u => blk_cell (blk_far B7.out (p := ⟨g6, 0, none⟩) (Ne.symm HN67.out) u) 0; have hf7s := fun u => blk_frozen (blk_far B7.out (p := ⟨g6, 0, none⟩) (Ne.symm HN67.out) u) 0; clear hg hbox hb) | ((with_reducible refine gate_dst (N := 8) rfl ?_); refine box_event ?hg (N := 8) ?hd (cs := #[.nilFunc]) (t := 55) ?hr ?_; (case hd => rfl); (case hg => rfl); (case hr => first | (go_simp; done) | (go_simp; rfl)); intro g8 hg w8_ hbox hb; have B8 := Aside0.mk hbox; have C6 := Aside0.mk (blk_below (blk_far (blk_put B67.out 0 _ rfl) (p := ⟨g7, 0, none⟩) HN67.out _) hb); have C7 := Aside0.mk (blk_below (blk_put (blk_far B7.out (p := ⟨g6, 0, none⟩) (Ne.symm HN67.out) _) 0 _ rfl) hb); have HB8 := Aside0.mk hb; have HG8 := Aside0.mk hg; have hc8 := blk_cell hbox 0; have hf8 := blk_frozen hbox 0; have hc8s := fun u => blk_cell (blk_put B8.out 0 u rfl) 0; clear hg hbox hb))
   have LE6 : w.heap.size ≤ g6 := (by rw [HG6.out]; exact (pw_below_drewN HB.out _).size)
   have LE7 : w.heap.size ≤ g7 := (by rw [HG7.out]; exact HB6.out.size)
   have LE8 : w.heap.size ≤ g8 := (by have := HB7.out.size; rw [HG8.out]; simpa [World.setCell] using this)
   have hcall := impl_choose.calls k w g7 g6 g8 LE7 LE6 42 [] 9 a0 a1 0 false (r1, r2) none 0 _ (below_set (below_step (below_set (below_set HB7.out LE6) LE7) HB8.out) LE8) (blk_far C7.out (p := ⟨g8, 0, none⟩) (blk_ne C7.out B8.out (by decide)) _) (blk_far C6.out (p := ⟨g8, 0, none⟩) (blk_ne C6.out B8.out (by decide)) _) (blk_put B8.out 0 _ rfl) (Kd.C_nil _ _) (Nat.le_refl _) (by intro ad e; cases e) H.out
   refine hcall.mono ?_
   rintro e w11 ⟨rfl, hf_, hb_, hk_, hw_⟩
   have hcf_ := blk_cell hf_ 0
   have hcb_ := blk_cell hb_ 0
   have HW := Aside0.mk hw_
   clear hk_ hw_ B6 B67 B7 B8 C6 C7 HB6 HB7 HB8 hc6 hf6 hc7 hf7 hc67 hf67 hc7s hf7s hc8 hf8 hc8s
   have hff_ := blk_frozen hf_ 0
   have hfb_ := blk_frozen hb_ 0
   go_wp2
   go_region

   go_wp2
   go_ret2
   exact ⟨rfl, by first | exact below_drew1 HW.out | exact pw_below_drewN HW.out 1⟩

/-! ### spec_leBoth: function 84 -/
mutual
def spec_leBoth.l0 : Nat → Int → Int → Int → Int → Int → Option (Int × Bool)
 | 0, _, _, _, _, _ => none
 | k + 1, x0, x1, x3, x4, x12 => if x12 < 10 then (spec_leBoth.j1 k x0 x1 x3 x4 x12 (decide ((wrap64 (x12 * x1)) ≤ x3))) else (spec_leBoth.j1 k x0 x1 x3 x4 x12 false)
def spec_leBoth.j1 : Nat → Int → Int → Int → Int → Int → Bool → Option (Int × Bool)
 | 0, _, _, _, _, _, _ => none
 | k + 1, x0, x1, x3, x4, x12, x33 => if x33 = true then (if x12 = 0 then (none) else (if (Int.tmod x4 x12) = 0 then ((spec_leBoth.f k (wrap64 ((wrap64 (10 * x0)) + x12)) (wrap64 (x1 - 1)) x12 (wrap64 (x3 - x12)) (wrap64 (Int.tdiv x4 x12))).bind fun bt347 => (if bt347.2 = true then (some (bt347.1, true)) else (spec_leBoth.l0 k x0 x1 x3 x4 (wrap64 (x12 + 1))))) else (spec_leBoth.l0 k x0 x1 x3 x4 (wrap64 (x12 + 1))))) else (some (0, false))
def spec_leBoth.f : Nat → Int → Int → Int → Int → Int → Option (Int × Bool)
 | 0, _, _, _, _, _ => none
 | k + 1, a0, a1, a2, a3, a4 => if a1 = 0 then (if a3 = 0 then (some (a0, (a4 == 1))) else (some (a0, false))) else (spec_leBoth.l0 k a0 a1 a3 a4 a2)
end
theorem spec_leBoth.mono_l : ∀ k, (∀ y0 y1 y2 y3 y4, LeO (spec_leBoth.f k y0 y1 y2 y3 y4) (spec_leBoth.f (k + 1) y0 y1 y2 y3 y4)) ∧ (∀ y0 y1 y2 y3 y4, LeO (spec_leBoth.l0 k y0 y1 y2 y3 y4) (spec_leBoth.l0 (k + 1) y0 y1 y2 y3 y4)) ∧ (∀ y0 y1 y2 y3 y4 y5, LeO (spec_leBoth.j1 k y0 y1 y2 y3 y4 y5) (spec_leBoth.j1 (k + 1) y0 y1 y2 y3 y4 y5))
 | 0 => ⟨fun _ _ _ _ _ r h => by simp [spec_leBoth.f] at h, fun _ _ _ _ _ r h => by simp [spec_leBoth.l0] at h, fun _ _ _ _ _ _ r h => by simp [spec_leBoth.j1] at h⟩
 | k + 1 => by
  obtain ⟨ih0, ih1, ih2⟩ := spec_leBoth.mono_l k
  refine ⟨?_, ?_, ?_⟩
  · intro y0 y1 y2 y3 y4
    unfold spec_leBoth.f
    repeat' first
    | (with_reducible exact ih0 _ _ _ _ _)
    | (with_reducible exact ih1 _ _ _ _ _)
    | (with_reducible exact ih2 _ _ _ _ _ _)
    | (with_reducible exact LeO.refl _)
    | (with_reducible exact LeO.none _)
    | (with_reducible refine LeO.ite ?_ ?_)
    | (with_reducible refine LeO.bind ?_ (fun _ => ?_))
    | exact ih0 _ _ _ _ _
    | exact ih1 _ _ _ _ _
    | exact ih2 _ _ _ _ _ _
    | exact LeO.none _
    | refine LeO.ite ?_ ?_
    | refine LeO.bind ?_ (fun _ => ?_)
  · intro y0 y1 y2 y3 y4
    unfold spec_leBoth.l0
    repeat' first
    | (with_reducible exact ih0 _ _ _ _ _)
    | (with_reducible exact ih1 _ _ _ _ _)
    | (with_reducible exact ih2 _ _ _ _ _ _)
    | (with_reducible exact LeO.refl _)
    | (with_reducible exact LeO.none _)
    | (with_reducible refine LeO.ite ?_ ?_)
    | (with_reducible refine LeO.bind ?_ (fun _ => ?_))
    | exact ih0 _ _ _ _ _
    | exact ih1 _ _ _ _ _
    | exact ih2 _ _ _ _ _ _
    | exact LeO.none _
    | refine LeO.ite ?_ ?_
    | refine LeO.bind ?_ (fun _ => ?_)
  intro y0 y1 y2 y3 y4 y5
  unfold spec_leBoth.j1
  repeat' first
  | (with_reducible exact ih0 _ _ _ _ _)
  | (with_reducible exact ih1 _ _ _ _ _)
  | (with_reducible exact ih2 _ _ _ _ _ _)
  | (with_reducible exact LeO.refl _)
  | (with_reducible exact LeO.none _)
  | (with_reducible refine LeO.ite ?_ ?_)
  | (with_reducible refine LeO.bind ?_ (fun _ => ?_))
  | exact ih0 _ _ _ _ _
  | exact ih1 _ _ _ _ _
  | exact ih2 _ _ _ _ _ _
  | exact LeO.none _
  | refine LeO.ite ?_ ?_
  | refine LeO.bind ?_ (fun _ => ?_)
theorem spec_leBoth.mono : ∀ a0 a1 a2 a3 a4 k, LeO (spec_leBoth.f k a0 a1 a2 a3 a4) (spec_leBoth.f (k + 1) a0 a1 a2 a3 a4) := by
 intro a0 a1 a2 a3 a4 k
 obtain ⟨ih0, ih1, ih2⟩ := spec_leBoth.mono_l k
 exact ih0 a0 a1 a2 a3 a4
set_option maxHeartbeats 8000000 in
set_option maxRecDepth 100000 in
theorem spec_leBoth.calls (k : Nat) : ∀ (a0 : Int) (a1 : Int) (a2 : Int) (a3 : Int) (a4 : Int) (r1 : Int) (r2 : Bool) (w : World) (h : spec_leBoth.f k a0 a1 a2 a3 a4 = some (r1, r2)),
 Calls Tryz.prog 84 #[.int .i64 a0, .int .i64 a1, .int .i64 a2, .int .i64 a3, .int .i64 a4] w fun e w' => e = .returned (.tuple #[.int .i64 r1, .bool r2]) ∧ Drawn0 w w' := by
 induction k using Nat.strongRecOn with
 | _ k ih =>
 intro a0 a1 a2 a3 a4 r1 r2 w h
 cases k with
 | zero => exact absurd h (by simp [spec_leBoth.f])
 | succ k =>
 simp only [spec_leBoth.f] at h
 have H : (if a1 = 0 then (if a3 = 0 then (some (a0, (a4 == 1))) else (some (a0, false))) else (spec_leBoth.l0 k a0 a1 a3 a4 a2)) = some (r1, r2) := h
 clear h
 by_cases c6 : a1 = 0
 · rw [if_pos c6] at H
   have c6b0 : (a1 == 0) = true := beq_iff_eq.mpr c6
   have c6b1 : (a1 != 0) = false := bne_eq_false_iff_eq.mpr c6
   clear c6
   by_cases c7 : a3 = 0
   · rw [if_pos c7] at H
     have c7b0 : (a3 == 0) = true := beq_iff_eq.mpr c7
     have c7b1 : (a3 != 0) = false := bne_eq_false_iff_eq.mpr c7
     clear c7
     simp only [Option.some.injEq, Prod.mk.injEq] at H
     obtain ⟨rfl, rfl⟩ := H
     go_enter Tryz.func84, Tryz.ntmps84
     go_wp2
     go_ret2
     exact ⟨by first | rfl | (simp; done) | (simp [*]; done), by repeat (first | exact Drawn0.refl _ | apply Drawn0.step)⟩
   rw [if_neg c7] at H
   have c7b0 : (a3 == 0) = false := beq_eq_false_iff_ne.mpr c7
   have c7b1 : (a3 != 0) = true := bne_iff_ne.mpr c7
   simp only [Option.some.injEq, Prod.mk.injEq] at H
   obtain ⟨rfl, rfl⟩ := H
   go_enter Tryz.func84, Tryz.ntmps84
   go_wp2
   go_ret2
   exact ⟨by first | rfl | (simp; done) | (simp [*]; done), by repeat (first | exact Drawn0.refl _ | apply Drawn0.step)⟩
 rw [if_neg c6] at H
 have c6b0 : (a1 == 0) = false := beq_eq_false_iff_ne.mpr c6
 have c6b1 : (a1 != 0) = true := bne_iff_ne.mpr c6
 have H' := Aside0.mk H
 clear H
 go_enter Tryz.func84, Tryz.ntmps84
 go_wp2
 go_loopg [12] k (fun kq v12 w' => ∃ (x12_1 : Int), v12 = .int .i64 x12_1 ∧ Aside0 (spec_leBoth.l0 kq a0 a1 a3 a4 x12_1 = some (r1, r2)) ∧ Aside0 (kq ≤ k) ∧ Drawn0 w w')
 case atStart => exact ⟨(a2), (by first | rfl | (simp; done) | (simp [*]; done)), H', ⟨Nat.le_refl _⟩, by repeat (first | exact Drawn0.refl _ | apply Drawn0.step)⟩
 case round =>
  clear H'
  (try clear p2);(try clear c6);(try clear c6b0);(try clear c6b1);(try clear c7);(try clear c7b0);(try clear c7b1)
  obtain ⟨x12_1, rfl, HA, HK1, ⟨m1, rfl⟩⟩ := hrel
  cases gk with
  | zero => exact absurd HA.out (by simp [spec_leBoth.l0])
  | succ k1 =>
   have H := HA.out
   clear HA
   simp only [spec_leBoth.l0] at H
   have HC8 := Aside0.mk H
   clear H
   go_upto_region 4 with (fail)
   go_cut [33] (fun v33 wc => ∃ (kq : Nat) (x33_7 : Bool), v33 = .bool x33_7 ∧ Aside0 (spec_leBoth.j1 kq a0 a1 a3 a4 x12_1 x33_7 = some (r1, r2)) ∧ Aside0 (kq ≤ k1) ∧ Drawn0 w wc)
   case first =>
    have H := HC8.out
    clear HC8
    by_cases c9 : x12_1 < 10
    · rw [if_pos c9] at H
      have c9b0 : decide (x12_1 < 10) = true := decide_eq_true c9
      clear c9
      (first | rw [c9b0] | (simp only [i64_w, i32_w]; rw [c9b0]) | skip)
      have H' := Aside0.mk H
      clear H
      go_wp2
      go_meet
      case rel => exact ⟨_, (decide ((wrap64 (x12_1 * a1)) ≤ a3)), (by first | rfl | (simp; done) | (simp [*]; done)), H', ⟨by have := HK1.out; first | omega | exact Nat.le_refl _⟩, by repeat (first | exact Drawn0.refl _ | apply Drawn0.step)⟩
    rw [if_neg c9] at H
    have c9b0 : decide (x12_1 < 10) = false := decide_eq_false c9
    clear c9
    (first | rw [c9b0] | (simp only [i64_w, i32_w]; rw [c9b0]) | skip)
    have H' := Aside0.mk H
    clear H
    go_wp2
    go_meet
    case rel => exact ⟨_, (false), (by first | rfl | (simp; done) | (simp [*]; done)), H', ⟨by have := HK1.out; first | omega | exact Nat.le_refl _⟩, by repeat (first | exact Drawn0.refl _ | apply Drawn0.step)⟩
   case rest =>
    clear HC8
    (try clear p2);(try clear c6);(try clear c6b0);(try clear c6b1);(try clear p6);(try clear c7);(try clear c7b0);(try clear c7b1);(try clear c8);(try clear c9);(try clear c9b0);(try clear p2)
    obtain ⟨kq, x33_7, rfl, HA, HJ7, ⟨mc7, rfl⟩⟩ := hcut
    cases kq with
    | zero => exact absurd HA.out (by simp [spec_leBoth.j1])
    | succ kj7 =>
     have H := HA.out
     clear HA
     simp only [spec_leBoth.j1] at H
     by_cases c10 : x33_7 = true
     · subst c10
       have H1 : (if x12_1 = 0 then (none) else (if (Int.tmod a4 x12_1) = 0 then ((spec_leBoth.f kj7 (wrap64 ((wrap64 (10 * a0)) + x12_1)) (wrap64 (a1 - 1)) x12_1 (wrap64 (a3 - x12_1)) (wrap64 (Int.tdiv a4 x12_1))).bind fun bt347 => (if bt347.2 = true then (some (bt347.1, true)) else (spec_leBoth.l0 kj7 a0 a1 a3 a4 (wrap64 (x12_1 + 1))))) else (spec_leBoth.l0 kj7 a0 a1 a3 a4 (wrap64 (x12_1 + 1))))) = some (r1, r2) := by rw [if_pos rfl] at H; exact H
       clear H
       have H := H1
       clear H1
       by_cases c11 : x12_1 = 0
       · exact none_ (if_pos c11) H
       rw [if_neg c11] at H
       have c11b0 : (x12_1 == 0) = false := beq_eq_false_iff_ne.mpr c11
       have c11b1 : (x12_1 != 0) = true := bne_iff_ne.mpr c11
       by_cases c12 : (Int.tmod a4 x12_1) = 0
       · rw [if_pos c12] at H
         have c12b0 : ((Int.tmod a4 x12_1) == 0) = true := beq_iff_eq.mpr c12
         have c12b1 : ((Int.tmod a4 x12_1) != 0) = false := bne_eq_false_iff_eq.mpr c12
         clear c12
         replace H := Option.bind_eq_some_iff.mp H
         obtain ⟨⟨t347, t348⟩, A130, H⟩ := H
         dsimp only at H
         have A13 := Aside0.mk A130
         clear A130
         by_cases c14 : t348 = true
         · subst c14
           have H1 : (some (t347, true)) = some (r1, r2) := by rw [if_pos rfl] at H; exact H
           clear H
           have H := H1
           clear H1
           simp only [Option.some.injEq, Prod.mk.injEq] at H
           obtain ⟨rfl, rfl⟩ := H
           go_wp2_with (first | ((with_reducible refine gate_callee (f := 84) rfl ?_); refine goesL_ (some 54) rfl rfl Tryz.func84 (by kernel_rfl) rfl #[.int .i64 (wrap64 ((wrap64 (10 * a0)) + x12_1)), .int .i64 (wrap64 (a1 - 1)), .int .i64 x12_1, .int .i64 (wrap64 (a3 - x12_1)), .int .i64 (wrap64 (Int.tdiv a4 x12_1))] rfl (by (try simp only [List.map_toArray, List.map_cons, List.map_nil]); first | done | rfl | (simp only [List.length_drop, List.length_take]; rfl)) ?_; (with_reducible refine (ih kj7 (by have := HK1.out; have := HJ7.out; omega) (wrap64 ((wrap64 (10 * a0)) + x12_1)) (wrap64 (a1 - 1)) x12_1 (wrap64 (a3 - x12_1)) (wrap64 (Int.tdiv a4 x12_1)) t347 true _ A13.out).mono ?_); rintro e w' ⟨rfl, ⟨nd, rfl⟩⟩; refine ⟨_, rfl, ?_⟩))
           go_ret2
           exact ⟨by first | rfl | (simp; done) | (simp [*]; done), by repeat (first | exact Drawn0.refl _ | apply Drawn0.step)⟩
         replace c14 := Bool.eq_false_iff.mpr c14
         subst c14
         have H1 : (spec_leBoth.l0 kj7 a0 a1 a3 a4 (wrap64 (x12_1 + 1))) = some (r1, r2) := by rw [if_neg (show ¬ (false = true) by decide)] at H; exact H
         clear H
         have H := H1
         clear H1
         have H' := Aside0.mk H
         clear H
         go_wp2_with (first | ((with_reducible refine gate_callee (f := 84) rfl ?_); refine goesL_ (some 54) rfl rfl Tryz.func84 (by kernel_rfl) rfl #[.int .i64 (wrap64 ((wrap64 (10 * a0)) + x12_1)), .int .i64 (wrap64 (a1 - 1)), .int .i64 x12_1, .int .i64 (wrap64 (a3 - x12_1)), .int .i64 (wrap64 (Int.tdiv a4 x12_1))] rfl (by (try simp only [List.map_toArray, List.map_cons, List.map_nil]); first | done | rfl | (simp only [List.length_drop, List.length_take]; rfl)) ?_; (with_reducible refine (ih kj7 (by have := HK1.out; have := HJ7.out; omega) (wrap64 ((wrap64 (10 * a0)) + x12_1)) (wrap64 (a1 - 1)) x12_1 (wrap64 (a3 - x12_1)) (wrap64 (Int.tdiv a4 x12_1)) t347 false _ A13.out).mono ?_); rintro e w' ⟨rfl, ⟨nd, rfl⟩⟩; refine ⟨_, rfl, ?_⟩))
         go_roundg kj7
         case measure => have := HK1.out; have := HJ7.out; omega
         case rel => exact ⟨(wrap64 (x12_1 + 1)), (by first | rfl | (simp; done) | (simp [*]; done)), H', ⟨by have := HK1.out; have := HJ7.out; omega⟩, by repeat (first | exact Drawn0.refl _ | apply Drawn0.step)⟩
       rw [if_neg c12] at H
       have c12b0 : ((Int.tmod a4 x12_1) == 0) = false := beq_eq_false_iff_ne.mpr c12
       have c12b1 : ((Int.tmod a4 x12_1) != 0) = true := bne_iff_ne.mpr c12
       have H' := Aside0.mk H
       clear H
       go_wp2
       go_roundg kj7
       case measure => have := HK1.out; have := HJ7.out; omega
       case rel => exact ⟨(wrap64 (x12_1 + 1)), (by first | rfl | (simp; done) | (simp [*]; done)), H', ⟨by have := HK1.out; have := HJ7.out; omega⟩, by repeat (first | exact Drawn0.refl _ | apply Drawn0.step)⟩
     replace c10 := Bool.eq_false_iff.mpr c10
     subst c10
     have H1 : (some (0, false)) = some (r1, r2) := by rw [if_neg (show ¬ (false = true) by decide)] at H; exact H
     clear H
     have H := H1
     clear H1
     simp only [Option.some.injEq, Prod.mk.injEq] at H
     obtain ⟨rfl, rfl⟩ := H
     go_wp2
     go_ret2
     exact ⟨by first | rfl | (simp; done) | (simp [*]; done), by repeat (first | exact Drawn0.refl _ | apply Drawn0.step)⟩

end Go.Proofs.YtogonichanoeaaaGreatDoor.PFnLeastOfSums

/- Short names for what the walks say often: steps of a region that draws, boxes, tests of equality. No condition. -/
import Derived.Test.YtmfbjhkhgkphcaaGreatDoorWLast
import Derived.Test.YtmfbjhkhgkphcaaGreatDoorWMore
import Derived.Test.YtmfbjhkhgkphcaaGreatDoorWTab
import Derived.Test.YtmfbjhkhgkphcaaGreatDoorWGuard
import Derived.Test.YtmfbjhkhgkphcaaGreatDoorWWords
import Derived.KernelRfl
namespace Go.Proofs.YtmfbjhkhgkphcaaGreatDoorW.PrintWords
open Go.RowKit Go.Proofs.YtmfbjhkhgkphcaaGreatDoorW.PrintLast Go.Proofs.YtmfbjhkhgkphcaaGreatDoorW.PrintMore
set_option linter.unusedVariables false
section
variable {P : Program} {ops : Array Oper} {Q : Exit → Act → World → Prop} {md : Region.Mode} {S : World → Prop} {ds : List Nat}
/-- An operation of a region that draws which yields in every world; what has come up, its value and what is held then are found here. -/
theorem pq_ (i : Nat) (N : Tmp) {oi : Oper} {v : Value} {fuel : Nat} {l l' : Array Bool} {a a' : Act} {w : World} (h : wpAnyLast P md ops Q S ds fuel l' a' w)
    (hl : l.setIfInBounds i true = l' := by (simp only [List.setIfInBounds_toArray, List.set_cons_zero, List.set_cons_succ]; exact rfl))
    (hi : ops[i]? = some oi := by exact rfl) (hN : oi.dst = some N := by exact rfl) (hc : anyB md ops l l' i = true := by first | exact any_of HT_.out (by kernel_rfl) | kernel_rfl)
    (hy : Yields P ops oi v a := by (refine Or.inl ⟨by rfl, ?_⟩; intro w'; go_simp; with_reducible rfl))
    (ha : a.put (some N) v = a' := by (simp only [Act.put, List.setIfInBounds_toArray, List.set_cons_zero, List.set_cons_succ, i64_w, i32_w]; exact rfl))
    (hQ : ∀ c a w, Q (.panic c) (a.put oi.dst v) w → Q (.panic c) a w := by exact fun _ _ _ h => h) : wpAnyLast P md ops Q S ds (fuel + 1) l a w :=
  pure_ (i := i) (N := some N) l' hi hN hc hQ hy ha h
/-- The same for one that is not wanted. -/
theorem pn_ (i : Nat) (N : Tmp) {oi : Oper} {fuel : Nat} {l l' : Array Bool} {a a' : Act} {w : World} (h : wpAnyLast P md ops Q S ds fuel l' a' w)
    (hl : l.setIfInBounds i true = l' := by (simp only [List.setIfInBounds_toArray, List.set_cons_zero, List.set_cons_succ]; exact rfl))
    (hi : ops[i]? = some oi := by exact rfl) (hN : oi.dst = some N := by exact rfl) (hc : anyB md ops l l' i = true := by first | exact any_of HT_.out (by kernel_rfl) | kernel_rfl)
    (hy : Yields P ops oi undef a := by exact Or.inr ⟨by rfl, rfl⟩)
    (ha : a.put (some N) undef = a' := by (simp only [Act.put, List.setIfInBounds_toArray, List.set_cons_zero, List.set_cons_succ, i64_w, i32_w]; exact rfl))
    (hQ : ∀ c a w, Q (.panic c) (a.put oi.dst undef) w → Q (.panic c) a w := by exact fun _ _ _ h => h) : wpAnyLast P md ops Q S ds (fuel + 1) l a w :=
  pure_ (i := i) (N := some N) l' hi hN hc hQ hy ha h
end
section
variable {P : Program} {ops : Array Oper} {rest : List Oper} {o : Oper} {a : Act} {Q : Exit → Act → World → Prop} {W : World}
/-- A box is made. -/
theorem bx_ (N : Tmp) (cs : Array Value) (t : TypeId) (h : ∀ g, g = W.heap.size → ∀ w1, w1.heap[g]? = some (.cells cs t (0, 0)) → Below W.heap.size W w1 → wpList P ops Q rest (a.put o.dst (.pointer (some ⟨g, 0, none⟩))) w1)
    (hd : o.dst = some N := by exact rfl) (hg : o.guard = none := by exact rfl)
    (hr : (execOp a.eval o).run P W = .ok (.value (.pointer (some ⟨W.heap.size, 0, none⟩))) (W.alloc (.cells cs t (0, 0))) := by first | (go_simp; done) | (go_simp; rfl)) : wpList P ops Q (o :: rest) a W := box_event hg hd hr h
/-- A box is made where a guard lets it. -/
theorem bxg_ (N : Tmp) (cs : Array Value) (t : TypeId) (h : ∀ g, g = W.heap.size → ∀ w1, w1.heap[g]? = some (.cells cs t (0, 0)) → Below W.heap.size W w1 → wpList P ops Q rest (a.put o.dst (.pointer (some ⟨g, 0, none⟩))) w1)
    (hd : o.dst = some N := by exact rfl) (hw : Region.wanted o (yielded ops a.tmps) = true := by rfl)
    (hr : (execOp a.eval { o with guard := none }).run P W = .ok (.value (.pointer (some ⟨W.heap.size, 0, none⟩))) (W.alloc (.cells cs t (0, 0))) := by first | (go_simp; done) | (go_simp; rfl)) : wpList P ops Q (o :: rest) a W :=
  gate_guard hw (box_event (o := { o with guard := none }) rfl hd hr h)
end
section
variable {α : Type} {r : α}
/-- tests: x = y of whole numbers, a true or false one, one that ends the way -/
theorem ep_ {x y : Int} {A B : Option α} (c : x = y) (H : (if x = y then A else B) = some r) : A = some r ∧ (x == y) = true ∧ (x != y) = false := ⟨by rw [if_pos c] at H; exact H, beq_iff_eq.mpr c, bne_eq_false_iff_eq.mpr c⟩
theorem en_ {x y : Int} {A B : Option α} (c : ¬ x = y) (H : (if x = y then A else B) = some r) : B = some r ∧ (x == y) = false ∧ (x != y) = true := ⟨by rw [if_neg c] at H; exact H, beq_eq_false_iff_ne.mpr c, bne_iff_ne.mpr c⟩
/-- a test that must be false: else nothing is told -/
theorem nz_ {p : Prop} [Decidable p] {A : Option α} (H : (if p then none else A) = some r) : ¬ p ∧ A = some r := by
  by_cases c : p
  · rw [if_pos c] at H; cases H
  · rw [if_neg c] at H; exact ⟨c, H⟩
end
theorem zM_ {p : Prop} (h : p := by repeat' first | (with_reducible exact LeO.refl _) | (with_reducible exact LeO.none _) | (with_reducible refine LeO.ite ?_ ?_) | (with_reducible refine LeO.bind ?_ (fun _ => ?_)) | (with_reducible apply m1_) | (with_reducible apply m2_) | (with_reducible apply m3_) | (with_reducible apply m4_) | (with_reducible apply m5_) | (with_reducible apply m6_) | (with_reducible apply m7_) | (with_reducible apply m8_) | exact LeO.none _ | refine LeO.ite ?_ ?_ | refine LeO.bind ?_ (fun _ => ?_)) : p := h
/-- A fact is led over what only draws or makes new blocks: the walk is found here. -/
theorem b_ {p q : Prop} (a : p) (h : p → q := by (intro h; (with_reducible repeat (first | refine blk_drewN ?_ _ | refine blk_drew ?_ | refine blk_alloc ?_ _)); exact h)) : q := h a
theorem rr_ {p q : Prop} (a : p) (h : p → q := by (intro h; (with_reducible repeat (first | apply Kd.R_alloc | apply Kd.R_drewN | apply Kd.R_drew)); exact h)) : q := h a
/-- A box is kept; it is not a new one; a new one lies behind the start. -/
theorem bb_ {w0 w1 w2 : World} {g : Nat} {o : Obj} (_ : Aside0 (w0.heap[g]? = some o)) (h : w1.heap[g]? = some o) (hb : Below w1.heap.size w1 w2) : Aside0 (w2.heap[g]? = some o) := ⟨blk_below h hb⟩
theorem nl_ {w0 W : World} {g g' : Nat} {o : Obj} (_ : Aside0 (w0.heap[g]? = some o)) (h : W.heap[g]? = some o) (hg : g' = W.heap.size) : Aside0 (g ≠ g') := ⟨by rw [hg]; exact Nat.ne_of_lt (blk_lt h)⟩
theorem ns_ {g g' : Nat} (h : Aside0 (g ≠ g')) : Aside0 (g' ≠ g) := ⟨fun e => h.out e.symm⟩
theorem bs_ {w W : World} {g : Nat} (hg : g = W.heap.size) (h : Below w.heap.size w W) : Aside0 (w.heap.size ≤ g) := ⟨by rw [hg]; exact below_size h⟩
end Go.Proofs.YtmfbjhkhgkphcaaGreatDoorW.PrintWords

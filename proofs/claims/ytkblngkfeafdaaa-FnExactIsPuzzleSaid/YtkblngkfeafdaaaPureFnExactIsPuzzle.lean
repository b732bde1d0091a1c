/- IsPuzzle: program and reference tell the same of every puzzle (lists and numbers alone). -/
import Derived.Test.YtkblngkfeafdaaaPFnExactIsPuzzlex3
namespace Go.Proofs.Ytkblngkfeafdaaa.Pure
open Go.RowKit Go.Proofs.Ytkblngkfeafdaaa.PFnExactIsPuzzle Go.Proofs.YtkblngkfeafdaaaW.PrintWords Go.Proofs.YtkblngkfeafdaaaW.PrintLast

theorem wrap_of {x : Int} (h0 : -9223372036854775808 ≤ x) (h1 : x ≤ 9223372036854775807) : wrap64 x = x := by unfold wrap64; omega
theorem wrap_nat {i : Nat} (h : i < 4611686018427387904) : wrap64 ((i : Int) + 1) = ((i + 1 : Nat) : Int) := by unfold wrap64; omega
theorem ev_eq {α : Type} {g : Nat → Option α} {r : α} (h : ∀ k, g k = some r) : Ev g r := ⟨0, fun k _ => h k⟩
theorem ev_bind {α β : Type} {x : Option α} {f : Nat → α → Option β} {a : α} {r : β} (h : x = some a) (k : Ev (fun n => f n a) r) : Ev (fun n => x.bind (f n)) r := by subst h; exact k
theorem ev_pos {α : Type} {c : Prop} [Decidable c] {g f : Nat → Option α} {r : α} (h : c) (k : Ev g r) : Ev (fun n => if c then g n else f n) r := by simp only [if_pos h]; exact k
theorem ev_neg {α : Type} {c : Prop} [Decidable c] {g f : Nat → Option α} {r : α} (h : ¬ c) (k : Ev f r) : Ev (fun n => if c then g n else f n) r := by simp only [if_neg h]; exact k
theorem ev_from {α : Type} {g : Nat → Option α} {r : α} (K : Nat) (h : ∀ k, K ≤ k → g k = some r) : Ev g r := ⟨K, h⟩

/-! ### clues -/
def clueB (k a b : Int) : Bool :=
  decide (0 ≤ b ∧ b ≤ 20 ∧ ((k = 0 ∧ 0 ≤ a ∧ a ≤ 1) ∨ (k = 1 ∧ 0 ≤ a ∧ a ≤ 3) ∨ (k = 2 ∧ a = 0 ∧ b < 2) ∨ (k = 3 ∧ 0 ≤ a ∧ a ≤ 2 ∧ b < 2) ∨ (k = 4 ∧ a = 0) ∨ (k = 5 ∧ a = 0 ∧ 2 ≤ b ∧ b ≤ 9)))
theorem l1In_eq (n lo hi : Int) : spec_l1In.f n lo hi = some (decide (lo ≤ n ∧ n ≤ hi)) := by
  unfold spec_l1In.f
  by_cases h : n ≥ lo
  · rw [if_pos h]; congr 1; simp; intro _; omega
  · rw [if_neg h]; congr 1; simp; intro; omega
theorem within_eq (n lo hi : Int) : impl_within.f n lo hi = some (decide (lo ≤ n ∧ n ≤ hi)) := by
  unfold impl_within.f
  by_cases h : lo ≤ n
  · rw [if_pos h]; congr 1; simp; intro _; omega
  · rw [if_neg h]; congr 1; simp; intro; omega
theorem specClue_eq (k a b : Int) : spec_pzClue.f k a b = some (clueB k a b) := by
  unfold spec_pzClue.f clueB
  simp only [l1In_eq, Option.bind_some]
  by_cases hb : 0 ≤ b ∧ b ≤ 20
  · rw [if_pos (by simpa using hb)]
    by_cases h0 : k = 0
    · subst h0; simp [hb]
    rw [if_neg h0]
    by_cases h1 : k = 1
    · subst h1; simp [hb]
    rw [if_neg h1]
    by_cases h2 : k = 2
    · subst h2; by_cases ha : a = 0 <;> simp [hb, ha]
    rw [if_neg h2]
    by_cases h3 : k = 3
    · subst h3; by_cases ha : 0 ≤ a ∧ a ≤ 2
      · simp [hb, ha]
      · have : ¬ (0 ≤ a ∧ a ≤ 2 ∧ b < 2) := fun h => ha ⟨h.1, h.2.1⟩
        simp [hb, ha, this]
    rw [if_neg h3]
    by_cases h4 : k = 4
    · subst h4; by_cases ha : a = 0 <;> simp [hb, ha]
    rw [if_neg h4]
    by_cases h5 : k = 5
    · subst h5; by_cases ha : a = 0 <;> simp [hb, ha]
    · rw [if_neg h5]; simp [hb, h0, h1, h2, h3, h4, h5]
  · rw [if_neg (by simpa using hb)]
    congr 1
    symm
    apply decide_eq_false
    rintro ⟨x, y, _⟩
    exact hb ⟨x, y⟩
theorem implClue_eq (n : Nat) (k a b : Int) : impl_IsClue.f (n + 1) k a b = some (clueB k a b) := by
  unfold impl_IsClue.f clueB
  simp only [within_eq, Option.bind_some]
  by_cases hk : 0 ≤ k ∧ k ≤ 5
  · rw [if_pos (by simpa using hk), if_pos hk.1, if_pos (by simp; omega)]
    have : k = 0 ∨ k = 1 ∨ k = 2 ∨ k = 3 ∨ k = 4 ∨ k = 5 := by omega
    rcases this with rfl | rfl | rfl | rfl | rfl | rfl
    all_goals
      by_cases ha : 0 ≤ a
      all_goals by_cases hb : 0 ≤ b
      all_goals simp [impl_IsClue.j0, within_eq, rd, ha, hb]
      all_goals try split
      all_goals try (simp; omega)
      all_goals try omega
      all_goals (congr 1; rw [Bool.eq_iff_iff]; simp; omega)
  · rw [if_neg (by simpa using hk)]
    congr 1
    symm
    apply decide_eq_false
    omega
theorem implClue_ev (k a b : Int) : Ev (fun n => impl_IsClue.f n k a b) (clueB k a b) := ⟨1, fun n hn => by obtain ⟨m, rfl⟩ : ∃ m, n = m + 1 := ⟨n - 1, by omega⟩; exact implClue_eq m k a b⟩

/-! ### puzzles -/
abbrev C1 := S23
abbrev C2 := S25
def conv (x : C1) : C2 := ⟨x.f0, x.f1, x.f2⟩
def clueS (x : C2) : Bool := clueB x.f0 x.f1 x.f2
def goodB (l : List C2) : Bool := decide (l.length ≤ 6) && l.all clueS
theorem rd_at (l : List C2) (i : Nat) (h : i < l.length) : rd_T25 l (i : Int) = l[i] := by
  unfold rd_T25
  rw [Int.toNat_natCast, List.getD_eq_getElem?_getD, List.getElem?_eq_getElem h]; rfl
theorem rd_at1 (l : List C1) (i : Nat) (h : i < l.length) : rd_T23 l (i : Int) = l[i] := by
  unfold rd_T23
  rw [Int.toNat_natCast, List.getD_eq_getElem?_getD, List.getElem?_eq_getElem h]; rfl
theorem szPuzzle_eq (l : List C1) (a : Int) (h0 : 0 ≤ a) (ha : a ≤ 1048576) (hl : l.length ≤ maxLen) : laws_szPuzzle.f l a = some (if (l.length : Int) ≤ a then a - l.length else -1) := by
  unfold laws_szPuzzle.f laws_szClueS.f
  unfold maxLen at hl
  rw [wrap_of (by omega) (by omega)]
  by_cases h : (l.length : Int) ≤ a
  · rw [if_neg (by omega), if_pos h]; simp only [Option.bind_some]; rw [if_neg (by omega)]
  · rw [if_pos (by omega), if_neg h]; simp
theorem toClueS_loop (l : List C1) (hl : l.length ≤ 1048576) : ∀ (d i k : Nat) (m : List C2), i + d = l.length → d < k → m.length = l.length → m.take i = (l.take i).map conv →
    laws_toClueS.l0 k l m (i : Int) = some (l.map conv) := by
  intro d
  induction d with
  | zero =>
    intro i k m hi hk hm ht
    obtain ⟨k, rfl⟩ : ∃ n, k = n + 1 := ⟨k - 1, by omega⟩
    simp only [laws_toClueS.l0]
    rw [if_neg (by omega)]
    have : i = l.length := by omega
    subst this
    rw [List.take_of_length_le (by omega), List.take_of_length_le (by omega)] at ht
    rw [ht]
  | succ d ih =>
    intro i k m hi hk hm ht
    obtain ⟨k, rfl⟩ : ∃ n, k = n + 1 := ⟨k - 1, by omega⟩
    have hlt : i < l.length := by omega
    simp only [laws_toClueS.l0]
    rw [if_pos (by omega), if_pos (by omega), rd_at1 l i hlt]
    simp only [laws_toClue.f, Option.bind_some]
    rw [if_pos (by omega), wrap_nat (by omega), Int.toNat_natCast]
    refine ih (i + 1) k _ (by omega) (by omega) (by simpa using hm) ?_
    rw [List.take_succ_eq_append_getElem (by simpa [hm] using hlt), List.take_set_of_le (Nat.le_refl _), ht, List.take_succ_eq_append_getElem hlt, List.map_append]
    congr 1
    simp [conv]
theorem toPuzzle_ev (l : List C1) (hl : l.length ≤ 1048576) : Ev (fun k => laws_toPuzzle.f k l) (l.map conv) := by
  refine ev_from (l.length + 1) (fun k hk => ?_)
  unfold laws_toPuzzle.f laws_toClueS.f
  rw [if_pos (by omega), if_pos (by simp; omega), Int.toNat_natCast, show (0 : Int) = ((0 : Nat) : Int) from rfl, toClueS_loop l hl l.length 0 k _ (by omega) (by omega) (by simp) (by simp)]
  rfl
theorem pzGood_loop (l : List C2) (hl : l.length ≤ 6) : ∀ (d i k : Nat), i + d = l.length → d < k → spec_pzGood.l0 k l (l.length : Int) (i : Int) = some ((l.drop i).all clueS) := by
  intro d
  induction d with
  | zero =>
    intro i k hi hk
    obtain ⟨k, rfl⟩ : ∃ n, k = n + 1 := ⟨k - 1, by omega⟩
    simp only [spec_pzGood.l0]
    rw [if_neg (by omega), List.drop_eq_nil_of_le (by omega)]; rfl
  | succ d ih =>
    intro i k hi hk
    obtain ⟨k, rfl⟩ : ∃ n, k = n + 1 := ⟨k - 1, by omega⟩
    have hlt : i < l.length := by omega
    simp only [spec_pzGood.l0]
    rw [if_pos (by omega), if_pos (by omega), if_pos (by omega), rd_at l i hlt, specClue_eq, Option.bind_some, List.drop_eq_getElem_cons hlt, List.all_cons]
    show (if clueS l[i] = true then _ else _) = _
    cases hc : clueS l[i] with
    | true => rw [if_pos rfl, wrap_nat (by omega), ih (i + 1) k (by omega) (by omega)]; simp
    | false => rw [if_neg (by decide)]; simp
theorem pzGood_ev (l : List C2) : Ev (fun k => spec_pzGood.f k l) (goodB l) := by
  unfold spec_pzGood.f goodB
  by_cases h : l.length ≤ 6
  · refine ev_from (l.length + 1) (fun k hk => ?_)
    rw [if_neg (by omega), show (0 : Int) = ((0 : Nat) : Int) from rfl, pzGood_loop l h l.length 0 k (by omega) (by omega)]
    simp [h]
  · refine ev_from (0) (fun k _ => ?_)
    rw [if_pos (by omega)]; simp [h]
theorem isPuzzle_ev (l : List C2) : Ev (fun k => impl_IsPuzzle.f k l) (goodB l) := by
  refine ev_from (1) (fun k hk => ?_)
  obtain ⟨k, rfl⟩ : ∃ m, k = m + 1 := ⟨k - 1, by omega⟩
  unfold impl_IsPuzzle.f goodB
  by_cases h : l.length ≤ 6
  · rw [if_pos (by omega), Fn.anyO_some (f := fun x => !clueS x) l (fun x _ => by show impl_IsPuzzle_1.f _ _ _ _ = _; unfold impl_IsPuzzle_1.f; rw [implClue_eq]; rfl)]
    simp [h, List.all_eq_not_any_not]
  · rw [if_neg (by omega)]; simp [h]
theorem eqClue_eq (x y : C2) : laws_eqClue.f x.f0 x.f1 x.f2 y.f0 y.f1 y.f2 = some (decide (x.f0 = y.f0 ∧ x.f1 = y.f1 ∧ x.f2 = y.f2)) := by
  unfold laws_eqClue.f
  by_cases h0 : x.f0 = y.f0 <;> by_cases h1 : x.f1 = y.f1 <;> by_cases h2 : x.f2 = y.f2 <;> simp [h0, h1, h2]
theorem eqClueS_loop (l : List C2) (hl : l.length ≤ 1048577) : ∀ (d i k : Nat), i + d = l.length → d < k → laws_eqClueS.l0 k l l (i : Int) = some true := by
  intro d
  induction d with
  | zero =>
    intro i k hi hk
    obtain ⟨k, rfl⟩ : ∃ n, k = n + 1 := ⟨k - 1, by omega⟩
    simp only [laws_eqClueS.l0]
    rw [if_neg (by omega)]
  | succ d ih =>
    intro i k hi hk
    obtain ⟨k, rfl⟩ : ∃ n, k = n + 1 := ⟨k - 1, by omega⟩
    have hlt : i < l.length := by omega
    simp only [laws_eqClueS.l0]
    rw [if_pos (by omega), if_pos (by omega), if_pos (by omega), eqClue_eq, Option.bind_some, if_pos (by simp), wrap_nat (by omega), ih (i + 1) k (by omega) (by omega)]
theorem eqPuzzle_ev (l : List C2) (hl : l.length ≤ 1048577) : Ev (fun k => laws_eqPuzzle.f k l l) true := by
  refine ev_from (l.length + 1) (fun k hk => ?_)
  unfold laws_eqPuzzle.f laws_eqClueS.f
  rw [if_pos rfl, show (0 : Int) = ((0 : Nat) : Int) from rfl, eqClueS_loop l hl l.length 0 k (by omega) (by omega)]
  rfl

theorem FnExactIsPuzzle : ∀ (l0_0 : List S23), ((∀ y ∈ l0_0, ((Lit.int .i64 y.f0).wf = true ∧ (Lit.int .i64 y.f1).wf = true ∧ (Lit.int .i64 y.f2).wf = true)) ∧ l0_0.length ≤ maxLen) → ∃ k, laws_FnExactIsPuzzle.f k l0_0 = some true := by
  rintro l ⟨_, hl⟩
  refine Ev.rounds ?_
  unfold laws_FnExactIsPuzzle.f
  refine ev_bind (szPuzzle_eq l 1048576 (by omega) (by omega) hl) ?_
  by_cases h : (l.length : Int) ≤ 1048576
  · rw [if_pos h]
    refine ev_neg (by omega) ?_
    have hm : (l.map conv).length = l.length := by simp
    refine Ev.bind (toPuzzle_ev l (by omega)) ?_
    refine Ev.bind (a := goodB (l.map conv)) ?_ ?_
    · unfold spec_IsPuzzle.f
      exact Ev.bind (pzGood_ev _) (ev_eq fun _ => rfl)
    refine Ev.bind (toPuzzle_ev l (by omega)) ?_
    refine Ev.bind (isPuzzle_ev _) ?_
    refine ev_neg (by simp) ?_
    refine Ev.bind (toPuzzle_ev l (by omega)) ?_
    refine Ev.bind (eqPuzzle_ev _ (by omega)) ?_
    exact ev_eq fun _ => rfl
  · rw [if_neg h]
    exact ev_pos (by omega) (ev_eq fun _ => rfl)

end Go.Proofs.Ytkblngkfeafdaaa.Pure

/- AddClue: program and reference tell the same of every puzzle and clue, and no memory is shared (lists and numbers alone). -/
import Derived.Test.YtkblngkfeafdaaaPFnExactAddCluex5
namespace Go.Proofs.Ytkblngkfeafdaaa.Pure
open Go.RowKit Go.Proofs.Ytkblngkfeafdaaa.PFnExactAddClue Go.Proofs.YtkblngkfeafdaaaW.PrintWords Go.Proofs.YtkblngkfeafdaaaW.PrintLast

theorem wrap_of {x : Int} (h0 : -9223372036854775808 ≤ x) (h1 : x ≤ 9223372036854775807) : wrap64 x = x := by unfold wrap64; omega
theorem wrap_nat {i : Nat} (h : i < 4611686018427387904) : wrap64 ((i : Int) + 1) = ((i + 1 : Nat) : Int) := by unfold wrap64; omega
theorem ev_eq {α : Type} {g : Nat → Option α} {r : α} (h : ∀ k, g k = some r) : Ev g r := ⟨0, fun k _ => h k⟩
theorem ev_bind {α β : Type} {x : Option α} {f : Nat → α → Option β} {a : α} {r : β} (h : x = some a) (k : Ev (fun n => f n a) r) : Ev (fun n => x.bind (f n)) r := by subst h; exact k
theorem ev_pos {α : Type} {c : Prop} [Decidable c] {g f : Nat → Option α} {r : α} (h : c) (k : Ev g r) : Ev (fun n => if c then g n else f n) r := by simp only [if_pos h]; exact k
theorem ev_neg {α : Type} {c : Prop} [Decidable c] {g f : Nat → Option α} {r : α} (h : ¬ c) (k : Ev f r) : Ev (fun n => if c then g n else f n) r := by simp only [if_neg h]; exact k
theorem ev_from {α : Type} {g : Nat → Option α} {r : α} (K : Nat) (h : ∀ k, K ≤ k → g k = some r) : Ev g r := ⟨K, h⟩

/-! ### clues -/
def clueB (k a b : Int) : Bool :=
  decide (0 ≤ b ∧ b ≤ 20 ∧ ((k = 0 ∧ 0 ≤ a ∧ a ≤ 1) ∨ (k = 1 ∧ 0 ≤ a ∧ a ≤ 3) ∨ (k = 2 ∧ a = 0 ∧ b < 2) ∨ (k = 3 ∧ 0 ≤ a ∧ a ≤ 2 ∧ b < 2) ∨ (k = 4 ∧ a = 0) ∨ (k = 5 ∧ a = 0 ∧ 2 ≤ b ∧ b ≤ 9)))
theorem l1In_eq (n lo hi : Int) : spec_l1In.f n lo hi = some (decide (lo ≤ n ∧ n ≤ hi)) := by
  unfold spec_l1In.f
  by_cases h : n ≥ lo
  · rw [if_pos h]; congr 1; simp; intro _; omega
  · rw [if_neg h]; congr 1; simp; intro; omega
theorem within_eq (n lo hi : Int) : impl_within.f n lo hi = some (decide (lo ≤ n ∧ n ≤ hi)) := by
  unfold impl_within.f
  by_cases h : lo ≤ n
  · rw [if_pos h]; congr 1; simp; intro _; omega
  · rw [if_neg h]; congr 1; simp; intro; omega
theorem specClue_eq (k a b : Int) : spec_pzClue.f k a b = some (clueB k a b) := by
  unfold spec_pzClue.f clueB
  simp only [l1In_eq, Option.bind_some]
  by_cases hb : 0 ≤ b ∧ b ≤ 20
  · rw [if_pos (by simpa using hb)]
    by_cases h0 : k = 0
    · subst h0; simp [hb]
    rw [if_neg h0]
    by_cases h1 : k = 1
    · subst h1; simp [hb]
    rw [if_neg h1]
    by_cases h2 : k = 2
    · subst h2; by_cases ha : a = 0 <;> simp [hb, ha]
    rw [if_neg h2]
    by_cases h3 : k = 3
    · subst h3; by_cases ha : 0 ≤ a ∧ a ≤ 2
      · simp [hb, ha]
      · have : ¬ (0 ≤ a ∧ a ≤ 2 ∧ b < 2) := fun h => ha ⟨h.1, h.2.1⟩
        simp [hb, ha, this]
    rw [if_neg h3]
    by_cases h4 : k = 4
    · subst h4; by_cases ha : a = 0 <;> simp [hb, ha]
    rw [if_neg h4]
    by_cases h5 : k = 5
    · subst h5; by_cases ha : a = 0 <;> simp [hb, ha]
    · rw [if_neg h5]; simp [hb, h0, h1, h2, h3, h4, h5]
  · rw [if_neg (by simpa using hb)]
    congr 1
    symm
    apply decide_eq_false
    rintro ⟨x, y, _⟩
    exact hb ⟨x, y⟩
theorem implClue_eq (n : Nat) (k a b : Int) : impl_IsClue.f (n + 1) k a b = some (clueB k a b) := by
  unfold impl_IsClue.f clueB
  simp only [within_eq, Option.bind_some]
  by_cases hk : 0 ≤ k ∧ k ≤ 5
  · rw [if_pos (by simpa using hk), if_pos hk.1, if_pos (by simp; omega)]
    have : k = 0 ∨ k = 1 ∨ k = 2 ∨ k = 3 ∨ k = 4 ∨ k = 5 := by omega
    rcases this with rfl | rfl | rfl | rfl | rfl | rfl
    all_goals
      by_cases ha : 0 ≤ a
      all_goals by_cases hb : 0 ≤ b
      all_goals simp [impl_IsClue.j0, within_eq, rd, ha, hb]
      all_goals try split
      all_goals try (simp; omega)
      all_goals try omega
      all_goals (congr 1; rw [Bool.eq_iff_iff]; simp; omega)
  · rw [if_neg (by simpa using hk)]
    congr 1
    symm
    apply decide_eq_false
    omega
theorem implClue_ev (k a b : Int) : Ev (fun n => impl_IsClue.f n k a b) (clueB k a b) := ⟨1, fun n hn => by obtain ⟨m, rfl⟩ : ∃ m, n = m + 1 := ⟨n - 1, by omega⟩; exact implClue_eq m k a b⟩

/-! ### puzzles -/
abbrev C1 := S23
abbrev C2 := S25
def conv (x : C1) : C2 := ⟨x.f0, x.f1, x.f2⟩
def clueS (x : C2) : Bool := clueB x.f0 x.f1 x.f2
def goodB (l : List C2) : Bool := decide (l.length ≤ 6) && l.all clueS
theorem rd_at (l : List C2) (i : Nat) (h : i < l.length) : rd_T25 l (i : Int) = l[i] := by
  unfold rd_T25
  rw [Int.toNat_natCast, List.getD_eq_getElem?_getD, List.getElem?_eq_getElem h]; rfl
theorem rd_at1 (l : List C1) (i : Nat) (h : i < l.length) : rd_T23 l (i : Int) = l[i] := by
  unfold rd_T23
  rw [Int.toNat_natCast, List.getD_eq_getElem?_getD, List.getElem?_eq_getElem h]; rfl
theorem szPuzzle_eq (l : List C1) (a : Int) (h0 : 0 ≤ a) (ha : a ≤ 1048576) (hl : l.length ≤ maxLen) : laws_szPuzzle.f l a = some (if (l.length : Int) ≤ a then a - l.length else -1) := by
  unfold laws_szPuzzle.f laws_szClueS.f
  unfold maxLen at hl
  rw [wrap_of (by omega) (by omega)]
  by_cases h : (l.length : Int) ≤ a
  · rw [if_neg (by omega), if_pos h]; simp only [Option.bind_some]; rw [if_neg (by omega)]
  · rw [if_pos (by omega), if_neg h]; simp
theorem toClueS_loop (l : List C1) (hl : l.length ≤ 1048576) : ∀ (d i k : Nat) (m : List C2), i + d = l.length → d < k → m.length = l.length → m.take i = (l.take i).map conv →
    laws_toClueS.l0 k l m (i : Int) = some (l.map conv) := by
  intro d
  induction d with
  | zero =>
    intro i k m hi hk hm ht
    obtain ⟨k, rfl⟩ : ∃ n, k = n + 1 := ⟨k - 1, by omega⟩
    simp only [laws_toClueS.l0]
    rw [if_neg (by omega)]
    have : i = l.length := by omega
    subst this
    rw [List.take_of_length_le (by omega), List.take_of_length_le (by omega)] at ht
    rw [ht]
  | succ d ih =>
    intro i k m hi hk hm ht
    obtain ⟨k, rfl⟩ : ∃ n, k = n + 1 := ⟨k - 1, by omega⟩
    have hlt : i < l.length := by omega
    simp only [laws_toClueS.l0]
    rw [if_pos (by omega), if_pos (by omega), rd_at1 l i hlt]
    simp only [laws_toClue.f, Option.bind_some]
    rw [if_pos (by omega), wrap_nat (by omega), Int.toNat_natCast]
    refine ih (i + 1) k _ (by omega) (by omega) (by simpa using hm) ?_
    rw [List.take_succ_eq_append_getElem (by simpa [hm] using hlt), List.take_set_of_le (Nat.le_refl _), ht, List.take_succ_eq_append_getElem hlt, List.map_append]
    congr 1
    simp [conv]
theorem toPuzzle_ev (l : List C1) (hl : l.length ≤ 1048576) : Ev (fun k => laws_toPuzzle.f k l) (l.map conv) := by
  refine ev_from (l.length + 1) (fun k hk => ?_)
  unfold laws_toPuzzle.f laws_toClueS.f
  rw [if_pos (by omega), if_pos (by simp; omega), Int.toNat_natCast, show (0 : Int) = ((0 : Nat) : Int) from rfl, toClueS_loop l hl l.length 0 k _ (by omega) (by omega) (by simp) (by simp)]
  rfl
theorem pzGood_loop (l : List C2) (hl : l.length ≤ 6) : ∀ (d i k : Nat), i + d = l.length → d < k → spec_pzGood.l0 k l (l.length : Int) (i : Int) = some ((l.drop i).all clueS) := by
  intro d
  induction d with
  | zero =>
    intro i k hi hk
    obtain ⟨k, rfl⟩ : ∃ n, k = n + 1 := ⟨k - 1, by omega⟩
    simp only [spec_pzGood.l0]
    rw [if_neg (by omega), List.drop_eq_nil_of_le (by omega)]; rfl
  | succ d ih =>
    intro i k hi hk
    obtain ⟨k, rfl⟩ : ∃ n, k = n + 1 := ⟨k - 1, by omega⟩
    have hlt : i < l.length := by omega
    simp only [spec_pzGood.l0]
    rw [if_pos (by omega), if_pos (by omega), if_pos (by omega), rd_at l i hlt, specClue_eq, Option.bind_some, List.drop_eq_getElem_cons hlt, List.all_cons]
    show (if clueS l[i] = true then _ else _) = _
    cases hc : clueS l[i] with
    | true => rw [if_pos rfl, wrap_nat (by omega), ih (i + 1) k (by omega) (by omega)]; simp
    | false => rw [if_neg (by decide)]; simp
theorem pzGood_ev (l : List C2) : Ev (fun k => spec_pzGood.f k l) (goodB l) := by
  unfold spec_pzGood.f goodB
  by_cases h : l.length ≤ 6
  · refine ev_from (l.length + 1) (fun k hk => ?_)
    rw [if_neg (by omega), show (0 : Int) = ((0 : Nat) : Int) from rfl, pzGood_loop l h l.length 0 k (by omega) (by omega)]
    simp [h]
  · refine ev_from (0) (fun k _ => ?_)
    rw [if_pos (by omega)]; simp [h]
theorem isPuzzle_ev (l : List C2) : Ev (fun k => impl_IsPuzzle.f k l) (goodB l) := by
  refine ev_from (1) (fun k hk => ?_)
  obtain ⟨k, rfl⟩ : ∃ m, k = m + 1 := ⟨k - 1, by omega⟩
  unfold impl_IsPuzzle.f goodB
  by_cases h : l.length ≤ 6
  · rw [if_pos (by omega), Fn.anyO_some (f := fun x => !clueS x) l (fun x _ => by show impl_IsPuzzle_1.f _ _ _ _ = _; unfold impl_IsPuzzle_1.f; rw [implClue_eq]; rfl)]
    simp [h, List.all_eq_not_any_not]
  · rw [if_neg (by omega)]; simp [h]
theorem eqClue_eq (x y : C2) : laws_eqClue.f x.f0 x.f1 x.f2 y.f0 y.f1 y.f2 = some (decide (x.f0 = y.f0 ∧ x.f1 = y.f1 ∧ x.f2 = y.f2)) := by
  unfold laws_eqClue.f
  by_cases h0 : x.f0 = y.f0 <;> by_cases h1 : x.f1 = y.f1 <;> by_cases h2 : x.f2 = y.f2 <;> simp [h0, h1, h2]
theorem eqClueS_loop (l : List C2) (hl : l.length ≤ 1048577) : ∀ (d i k : Nat), i + d = l.length → d < k → laws_eqClueS.l0 k l l (i : Int) = some true := by
  intro d
  induction d with
  | zero =>
    intro i k hi hk
    obtain ⟨k, rfl⟩ : ∃ n, k = n + 1 := ⟨k - 1, by omega⟩
    simp only [laws_eqClueS.l0]
    rw [if_neg (by omega)]
  | succ d ih =>
    intro i k hi hk
    obtain ⟨k, rfl⟩ : ∃ n, k = n + 1 := ⟨k - 1, by omega⟩
    have hlt : i < l.length := by omega
    simp only [laws_eqClueS.l0]
    rw [if_pos (by omega), if_pos (by omega), if_pos (by omega), eqClue_eq, Option.bind_some, if_pos (by simp), wrap_nat (by omega), ih (i + 1) k (by omega) (by omega)]
theorem eqPuzzle_ev (l : List C2) (hl : l.length ≤ 1048577) : Ev (fun k => laws_eqPuzzle.f k l l) true := by
  refine ev_from (l.length + 1) (fun k hk => ?_)
  unfold laws_eqPuzzle.f laws_eqClueS.f
  rw [if_pos rfl, show (0 : Int) = ((0 : Nat) : Int) from rfl, eqClueS_loop l hl l.length 0 k (by omega) (by omega)]
  rfl

/-! ### marks -/
def mkC (a : Int) (j : Nat) : C2 := ⟨a + 3 * j, a + 3 * j + 1, a + 3 * j + 2⟩
def marks (a : Int) (n : Nat) : List C2 := (List.range' 0 n).map (mkC a)
theorem marks_len (a : Int) (n : Nat) : (marks a n).length = n := by simp [marks]
theorem marks_get (a : Int) (n i : Nat) (h : i < (marks a n).length) : (marks a n)[i] = mkC a i := by simp [marks]
theorem rd_set (m : List C2) (i : Nat) (u : C2) (h : i < m.length) : rd_T25 (m.set i u) (i : Int) = u := by
  rw [rd_at _ _ (by simpa using h)]; simp
theorem mark_loop (a : Int) (h0 : 0 ≤ a) (ha : a ≤ 1000000000) : ∀ (d i k : Nat) (m : List C2), m.length ≤ 1048577 → i + d = m.length → d < k →
    laws_markClueS.l0 k m (a + 3 * i) (i : Int) = some (a + 3 * m.length, m.take i ++ (List.range' i d).map (mkC a)) := by
  intro d
  induction d with
  | zero =>
    intro i k m hl hi hk
    obtain ⟨k, rfl⟩ : ∃ n, k = n + 1 := ⟨k - 1, by omega⟩
    simp only [laws_markClueS.l0]
    rw [if_neg (by omega)]
    have : i = m.length := by omega
    subst this
    simp
  | succ d ih =>
    intro i k m hl hi hk
    obtain ⟨k, rfl⟩ : ∃ n, k = n + 1 := ⟨k - 1, by omega⟩
    have hlt : i < m.length := by omega
    simp only [laws_markClueS.l0]
    rw [if_pos (by omega), if_pos (by omega)]
    simp only [Option.bind_some, Int.toNat_natCast]
    rw [rd_set m i _ hlt]
    simp only [List.set_set]
    rw [rd_set m i _ hlt]
    simp only []
    have e1 : wrap64 (a + 3 * (i : Int) + 1) = a + 3 * i + 1 := wrap_of (by omega) (by omega)
    have e2 : wrap64 (a + 3 * (i : Int) + 1 + 1) = a + 3 * i + 2 := by rw [wrap_of (by omega) (by omega)]; omega
    have e3 : wrap64 (a + 3 * (i : Int) + 2 + 1) = a + 3 * ((i + 1 : Nat) : Int) := by rw [wrap_of (by omega) (by omega)]; omega
    rw [e1, e2, e3, wrap_nat (by omega), ih (i + 1) k _ (by simpa using hl) (by simp; omega) (by omega)]
    have e4 : (m.set i (⟨a + 3 * i, a + 3 * i + 1, a + 3 * i + 2⟩ : C2)).take (i + 1) = m.take i ++ [mkC a i] := by
      rw [List.take_succ_eq_append_getElem (by simpa using hlt), List.take_set_of_le (Nat.le_refl _)]
      simp [mkC]
    rw [e4]
    simp [List.range'_succ]
theorem mark_ev (m : List C2) (hl : m.length ≤ 1048577) : Ev (fun k => laws_markPuzzle.f k m 1) (1 + 3 * (m.length : Int), marks 1 m.length) := by
  refine ev_from (m.length + 1) (fun k hk => ?_)
  unfold laws_markPuzzle.f laws_markClueS.f
  have := mark_loop 1 (by omega) (by omega) m.length 0 k m hl (by omega) (by omega)
  simp only [Int.natCast_zero, Int.mul_zero, Int.add_zero, List.take_zero, List.nil_append] at this
  have e : ((0 : Nat) : Int) = 0 := rfl
  try rw [e] at this
  try simp only [Int.mul_zero, Int.add_zero] at this
  rw [this]
  rfl
theorem held_loop (a : Int) (h0 : 0 ≤ a) (ha : a ≤ 1000000000) (n : Nat) (hn : n ≤ 1048577) : ∀ (d i k : Nat), i + d = n → d < k →
    laws_heldClueS.l0 k (marks a n) (a + 3 * i) (i : Int) = some (a + 3 * n) := by
  intro d
  induction d with
  | zero =>
    intro i k hi hk
    obtain ⟨k, rfl⟩ : ∃ n, k = n + 1 := ⟨k - 1, by omega⟩
    simp only [laws_heldClueS.l0]
    rw [if_neg (by rw [marks_len]; omega)]
    have : i = n := by omega
    rw [this]
  | succ d ih =>
    intro i k hi hk
    obtain ⟨k, rfl⟩ : ∃ n, k = n + 1 := ⟨k - 1, by omega⟩
    have hlt : i < (marks a n).length := by rw [marks_len]; omega
    have e1 : wrap64 (a + 3 * (i : Int) + 1) = a + 3 * i + 1 := wrap_of (by omega) (by omega)
    have e2 : wrap64 (a + 3 * (i : Int) + 1 + 1) = a + 3 * i + 2 := by rw [wrap_of (by omega) (by omega)]; omega
    have e3 : wrap64 (a + 3 * (i : Int) + 2 + 1) = a + 3 * ((i + 1 : Nat) : Int) := by rw [wrap_of (by omega) (by omega)]; omega
    simp only [laws_heldClueS.l0]
    rw [if_pos (by omega), if_pos (by omega), rd_at _ i hlt, marks_get a n i hlt, e1, e2, e3, wrap_nat (by omega)]
    rw [if_pos (show (mkC a i).f0 = a + 3 * (i : Int) from rfl), if_pos (show (mkC a i).f1 = a + 3 * (i : Int) + 1 from rfl), if_pos (show (mkC a i).f2 = a + 3 * (i : Int) + 2 from rfl)]
    exact ih (i + 1) k (by omega) (by omega)
theorem held_ev (n : Nat) (hn : n ≤ 1048577) : Ev (fun k => laws_heldPuzzle.f k (marks 1 n) 1) (1 + 3 * (n : Int)) := by
  refine ev_from (n + 1) (fun k hk => ?_)
  unfold laws_heldPuzzle.f laws_heldClueS.f
  have := held_loop 1 (by omega) (by omega) n hn n 0 k (by omega) (by omega)
  simp only [Int.natCast_zero, Int.mul_zero, Int.add_zero] at this
  have e : ((0 : Nat) : Int) = 0 := rfl
  try rw [e] at this
  try simp only [Int.mul_zero, Int.add_zero] at this
  rw [this]
  simp only [Option.bind_some]
  rw [if_neg (by omega)]

/-! ### adding -/
def addB (l : List C2) (x y z : Int) : List C2 × Bool := if goodB l = true ∧ clueB x y z = true ∧ ¬ (l.length : Int) = 6 then (l ++ [⟨x, y, z⟩], true) else ([], false)
theorem goodB_len' {l : List C2} (h : goodB l = true) : l.length ≤ 6 := by
  unfold goodB at h
  simp only [Bool.and_eq_true, decide_eq_true_eq] at h
  exact h.1
theorem specAdd_ev (l : List C2) (x y z : Int) : Ev (fun k => spec_AddClue.f k l x y z) (addB l x y z) := by
  unfold spec_AddClue.f addB
  refine Ev.bind (pzGood_ev l) ?_
  cases hg : goodB l with
  | false => exact ev_neg (by decide) (ev_eq fun _ => by simp)
  | true =>
    have hl := goodB_len' hg
    refine ev_pos rfl ?_
    refine ev_bind (specClue_eq _ _ _) ?_
    cases hc : clueB x y z with
    | false => exact ev_neg (by decide) (ev_eq fun _ => by simp)
    | true =>
      refine ev_pos rfl ?_
      by_cases h6 : (l.length : Int) = 6
      · exact ev_pos h6 (ev_eq fun _ => by simp [h6])
      · refine ev_neg h6 ?_
        refine ev_eq fun _ => ?_
        obtain ⟨N, hN, hN'⟩ : ∃ N : Nat, N = 5864062014805 ∧ 2000000 ≤ N := ⟨_, rfl, by omega⟩
        rw [← hN]
        simp only [Option.bind_some, List.nil_append, List.length_nil, List.length_cons]
        rw [if_pos (by omega), if_pos (by omega), if_pos ⟨trivial, trivial, h6⟩]
theorem implAdd_ev (l : List C2) (x y z : Int) : Ev (fun k => impl_AddClue.f k l x y z) (addB l x y z) := by
  unfold impl_AddClue.f addB
  refine Ev.bind (isPuzzle_ev l) ?_
  cases hg : goodB l with
  | false => exact ev_neg (by decide) (ev_eq fun _ => by simp)
  | true =>
    have hl := goodB_len' hg
    refine ev_pos rfl ?_
    refine Ev.bind (implClue_ev _ _ _) ?_
    cases hc : clueB x y z with
    | false => exact ev_neg (by decide) (ev_eq fun _ => by simp)
    | true =>
      refine ev_pos rfl ?_
      by_cases h6 : (l.length : Int) = 6
      · exact ev_pos h6 (ev_eq fun _ => by simp [h6])
      · refine ev_neg h6 ?_
        refine ev_eq fun _ => ?_
        unfold slices_Clone_clue.f
        obtain ⟨N, hN, hN'⟩ : ∃ N : Nat, N = 5864062014805 ∧ 2000000 ≤ N := ⟨_, rfl, by omega⟩
        rw [← hN]
        rw [if_pos (by omega)]
        simp only [Option.bind_some, List.length_nil, List.length_cons]
        rw [if_pos (by omega), if_pos ⟨trivial, trivial, h6⟩]
theorem addB_len (l : List C2) (x y z : Int) : (addB l x y z).1.length ≤ 1048577 := by
  unfold addB
  split
  · rename_i h
    have := goodB_len' h.1
    simp only [List.length_append, List.length_cons, List.length_nil]
    omega
  · simp

theorem FnExactAddClue : ∀ (l0_0 : List S23) (a1_0 : Int) (a1_1 : Int) (a1_2 : Int), ((∀ y ∈ l0_0, ((Lit.int .i64 y.f0).wf = true ∧ (Lit.int .i64 y.f1).wf = true ∧ (Lit.int .i64 y.f2).wf = true)) ∧ l0_0.length ≤ maxLen) → ((Lit.int .i64 a1_0).wf = true ∧ (Lit.int .i64 a1_1).wf = true ∧ (Lit.int .i64 a1_2).wf = true) → ∃ k, laws_FnExactAddClue.f k l0_0 a1_0 a1_1 a1_2 = some true := by
  rintro l x y z ⟨_, hl⟩ _
  refine Ev.rounds ?_
  unfold laws_FnExactAddClue.f laws_toClue.f
  refine ev_bind (szPuzzle_eq l 1048576 (by omega) (by omega) hl) ?_
  by_cases h : (l.length : Int) ≤ 1048576
  · rw [if_pos h]
    refine ev_neg (by omega) ?_
    have hm : (l.map conv).length = l.length := by simp
    have hd := addB_len (l.map conv) x y z
    refine Ev.bind (toPuzzle_ev l (by omega)) ?_
    refine ev_bind rfl ?_
    refine Ev.bind (specAdd_ev _ x y z) ?_
    refine Ev.bind (toPuzzle_ev l (by omega)) ?_
    refine ev_bind rfl ?_
    refine Ev.bind (implAdd_ev _ x y z) ?_
    refine Ev.bind (eqPuzzle_ev _ hd) ?_
    refine ev_pos rfl ?_
    refine ev_neg (by simp) ?_
    refine Ev.bind (toPuzzle_ev l (by omega)) ?_
    refine Ev.bind (eqPuzzle_ev _ (by omega)) ?_
    refine ev_pos rfl ?_
    refine Ev.bind (mark_ev _ (by omega)) ?_
    refine ev_neg (by simp only; omega) ?_
    refine Ev.bind (eqPuzzle_ev _ hd) ?_
    refine ev_pos rfl ?_
    refine Ev.bind (mark_ev _ hd) ?_
    refine Ev.bind (held_ev _ hd) ?_
    refine ev_neg (by omega) ?_
    refine ev_pos rfl ?_
    refine Ev.bind (toPuzzle_ev l (by omega)) ?_
    refine ev_bind rfl ?_
    refine Ev.bind (implAdd_ev _ x y z) ?_
    refine Ev.bind (eqPuzzle_ev _ hd) ?_
    refine ev_pos rfl ?_
    refine ev_neg (by simp) ?_
    refine Ev.bind (held_ev _ hd) ?_
    refine ev_neg (by omega) ?_
    exact ev_pos rfl (ev_eq fun _ => rfl)
  · rw [if_neg h]
    exact ev_pos (by omega) (ev_eq fun _ => rfl)

end Go.Proofs.Ytkblngkfeafdaaa.Pure

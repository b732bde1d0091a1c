/- PuzzleText: program and reference tell the same of every puzzle (lists, numbers and texts alone). -/
import Derived.Test.YtjhmocngcnnfdaaDoorPFnExactPuzzleTextx5
namespace Go.Proofs.YtjhmocngcnnfdaaDoor.Pure
open Go.RowKit Go.Proofs.YtjhmocngcnnfdaaDoor.PFnExactPuzzleText Go.Proofs.YtjhmocngcnnfdaaDoorW.PrintWords Go.Proofs.YtjhmocngcnnfdaaDoorW.PrintLast
set_option linter.unusedVariables false
set_option linter.unusedSimpArgs false

theorem wrap_of {x : Int} (h0 : -9223372036854775808 ≤ x) (h1 : x ≤ 9223372036854775807) : wrap64 x = x := by unfold wrap64; omega
theorem wrap_nat {i : Nat} (h : i < 4611686018427387904) : wrap64 ((i : Int) + 1) = ((i + 1 : Nat) : Int) := by unfold wrap64; omega
theorem ev_eq {α : Type} {g : Nat → Option α} {r : α} (h : ∀ k, g k = some r) : Ev g r := ⟨0, fun k _ => h k⟩
theorem ev_bind {α β : Type} {x : Option α} {f : Nat → α → Option β} {a : α} {r : β} (h : x = some a) (k : Ev (fun n => f n a) r) : Ev (fun n => x.bind (f n)) r := by subst h; exact k
theorem ev_pos {α : Type} {c : Prop} [Decidable c] {g f : Nat → Option α} {r : α} (h : c) (k : Ev g r) : Ev (fun n => if c then g n else f n) r := by simp only [if_pos h]; exact k
theorem ev_neg {α : Type} {c : Prop} [Decidable c] {g f : Nat → Option α} {r : α} (h : ¬ c) (k : Ev f r) : Ev (fun n => if c then g n else f n) r := by simp only [if_neg h]; exact k
theorem ev_from {α : Type} {g : Nat → Option α} {r : α} (K : Nat) (h : ∀ k, K ≤ k → g k = some r) : Ev g r := ⟨K, h⟩

/-! ### bytes of a text -/
theorem size_len (t : ByteArray) : t.data.toList.length = t.size := by rw [Array.length_toList]; rfl
theorem bt_get (t : ByteArray) (i : Nat) (h : i < t.data.toList.length) : bt t (i : Int) = ((t.data.toList[i]).toNat : Int) := by
  unfold bt
  rw [dif_pos (by rw [Int.toNat_natCast]; simpa using h)]
  simp only [Int.toNat_natCast]
  rfl
theorem ev_succ {α : Type} {g : Nat → Option α} {r : α} (h : Ev (fun k => g (k + 1)) r) : Ev g r := by
  obtain ⟨K, hK⟩ := h
  refine ev_from (K + 1) (fun k hk => ?_)
  obtain ⟨k, rfl⟩ : ∃ m, k = m + 1 := ⟨k - 1, by omega⟩
  exact hK k (by omega)
theorem ext_list (s : ByteArray) (a b : Nat) (hb : b ≤ s.size) : (s.extract a b).data.toList = (s.data.toList.take b).drop a := by
  rw [ByteArray.data_extract, Array.toList_extract, List.extract_eq_take_drop]
  rw [List.drop_take]
theorem take_list (s : ByteArray) (i : Nat) (h : i ≤ s.size) : (s.extract 0 i).data.toList = s.data.toList.take i := by rw [ext_list s 0 i h]; rfl
theorem drop_list (s : ByteArray) (i : Nat) : (s.extract i s.size).data.toList = s.data.toList.drop i := by
  rw [ext_list s i s.size (Nat.le_refl _), List.take_of_length_le (by rw [size_len]; exact Nat.le_refl _)]
theorem mk_data (s : ByteArray) : (⟨s.data.toList.toArray⟩ : ByteArray) = s := by cases s; simp
theorem of_list {s : ByteArray} {l : List UInt8} (h : s.data.toList = l) : s = ⟨l.toArray⟩ := by rw [← h, mk_data]
theorem list_of (l : List UInt8) : (⟨l.toArray⟩ : ByteArray).data.toList = l := by simp
theorem mk_size (l : List UInt8) : (⟨l.toArray⟩ : ByteArray).size = l.length := by rw [← size_len, list_of]
theorem mk_append (a b : List UInt8) : (⟨a.toArray⟩ : ByteArray) ++ ⟨b.toArray⟩ = ⟨(a ++ b).toArray⟩ := by
  apply of_list; rw [ByteArray.data_append, Array.toList_append, list_of, list_of]

/-! ### clues -/
def clueB (k a b : Int) : Bool :=
  decide (0 ≤ b ∧ b ≤ 20 ∧ ((k = 0 ∧ 0 ≤ a ∧ a ≤ 1) ∨ (k = 1 ∧ 0 ≤ a ∧ a ≤ 3) ∨ (k = 2 ∧ a = 0 ∧ b < 2) ∨ (k = 3 ∧ 0 ≤ a ∧ a ≤ 2 ∧ b < 2) ∨ (k = 4 ∧ a = 0) ∨ (k = 5 ∧ a = 0 ∧ 2 ≤ b ∧ b ≤ 9)))
theorem l1In_eq (n lo hi : Int) : spec_l1In.f n lo hi = some (decide (lo ≤ n ∧ n ≤ hi)) := by
  unfold spec_l1In.f
  by_cases h : n ≥ lo
  · rw [if_pos h]; congr 1; simp; intro _; omega
  · rw [if_neg h]; congr 1; simp; intro; omega
theorem within_eq (n lo hi : Int) : impl_within.f n lo hi = some (decide (lo ≤ n ∧ n ≤ hi)) := by
  unfold impl_within.f
  by_cases h : lo ≤ n
  · rw [if_pos h]; congr 1; simp; intro _; omega
  · rw [if_neg h]; congr 1; simp; intro; omega
theorem specClue_eq (k a b : Int) : spec_pzClue.f k a b = some (clueB k a b) := by
  unfold spec_pzClue.f clueB
  simp only [l1In_eq, Option.bind_some]
  by_cases hb : 0 ≤ b ∧ b ≤ 20
  · rw [if_pos (by simpa using hb)]
    by_cases h0 : k = 0
    · subst h0; simp [hb]
    rw [if_neg h0]
    by_cases h1 : k = 1
    · subst h1; simp [hb]
    rw [if_neg h1]
    by_cases h2 : k = 2
    · subst h2; by_cases ha : a = 0 <;> simp [hb, ha]
    rw [if_neg h2]
    by_cases h3 : k = 3
    · subst h3; by_cases ha : 0 ≤ a ∧ a ≤ 2
      · simp [hb, ha]
      · have : ¬ (0 ≤ a ∧ a ≤ 2 ∧ b < 2) := fun h => ha ⟨h.1, h.2.1⟩
        simp [hb, ha, this]
    rw [if_neg h3]
    by_cases h4 : k = 4
    · subst h4; by_cases ha : a = 0 <;> simp [hb, ha]
    rw [if_neg h4]
    by_cases h5 : k = 5
    · subst h5; by_cases ha : a = 0 <;> simp [hb, ha]
    · rw [if_neg h5]; simp [hb, h0, h1, h2, h3, h4, h5]
  · rw [if_neg (by simpa using hb)]
    congr 1
    symm
    apply decide_eq_false
    rintro ⟨x, y, _⟩
    exact hb ⟨x, y⟩
theorem implClue_eq (n : Nat) (k a b : Int) : impl_IsClue.f (n + 1) k a b = some (clueB k a b) := by
  unfold impl_IsClue.f clueB
  simp only [within_eq, Option.bind_some]
  by_cases hk : 0 ≤ k ∧ k ≤ 5
  · rw [if_pos (by simpa using hk), if_pos hk.1, if_pos (by simp; omega)]
    have : k = 0 ∨ k = 1 ∨ k = 2 ∨ k = 3 ∨ k = 4 ∨ k = 5 := by omega
    rcases this with rfl | rfl | rfl | rfl | rfl | rfl
    all_goals
      by_cases ha : 0 ≤ a
      all_goals by_cases hb : 0 ≤ b
      all_goals simp [impl_IsClue.j0, within_eq, rd, ha, hb]
      all_goals try split
      all_goals try (simp; omega)
      all_goals try omega
      all_goals (congr 1; rw [Bool.eq_iff_iff]; simp; omega)
  · rw [if_neg (by simpa using hk)]
    congr 1
    symm
    apply decide_eq_false
    omega
theorem implClue_ev (k a b : Int) : Ev (fun n => impl_IsClue.f n k a b) (clueB k a b) := ⟨1, fun n hn => by obtain ⟨m, rfl⟩ : ∃ m, n = m + 1 := ⟨n - 1, by omega⟩; exact implClue_eq m k a b⟩

/-! ### puzzles -/
abbrev C1 := S105
abbrev C2 := S96
def conv (x : C1) : C2 := ⟨x.f0, x.f1, x.f2⟩
def clueS (x : C2) : Bool := clueB x.f0 x.f1 x.f2
def goodB (l : List C2) : Bool := decide (l.length ≤ 6) && l.all clueS
theorem rd_at (l : List C2) (i : Nat) (h : i < l.length) : rd_T96 l (i : Int) = l[i] := by
  unfold rd_T96
  rw [Int.toNat_natCast, List.getD_eq_getElem?_getD, List.getElem?_eq_getElem h]; rfl
theorem rd_at1 (l : List C1) (i : Nat) (h : i < l.length) : rd_T105 l (i : Int) = l[i] := by
  unfold rd_T105
  rw [Int.toNat_natCast, List.getD_eq_getElem?_getD, List.getElem?_eq_getElem h]; rfl
theorem szPuzzle_eq (l : List C1) (a : Int) (h0 : 0 ≤ a) (ha : a ≤ 1048576) (hl : l.length ≤ maxLen) : laws_szPuzzle.f l a = some (if (l.length : Int) ≤ a then a - l.length else -1) := by
  unfold laws_szPuzzle.f laws_szClueS.f
  unfold maxLen at hl
  rw [wrap_of (by omega) (by omega)]
  by_cases h : (l.length : Int) ≤ a
  · rw [if_neg (by omega), if_pos h]; simp only [Option.bind_some]; rw [if_neg (by omega)]
  · rw [if_pos (by omega), if_neg h]; simp
theorem toClueS_loop (l : List C1) (hl : l.length ≤ 1048576) : ∀ (d i k : Nat) (m : List C2), i + d = l.length → d < k → m.length = l.length → m.take i = (l.take i).map conv →
    laws_toClueS.l0 k l m (i : Int) = some (l.map conv) := by
  intro d
  induction d with
  | zero =>
    intro i k m hi hk hm ht
    obtain ⟨k, rfl⟩ : ∃ n, k = n + 1 := ⟨k - 1, by omega⟩
    simp only [laws_toClueS.l0]
    rw [if_neg (by omega)]
    have : i = l.length := by omega
    subst this
    rw [List.take_of_length_le (by omega), List.take_of_length_le (by omega)] at ht
    rw [ht]
  | succ d ih =>
    intro i k m hi hk hm ht
    obtain ⟨k, rfl⟩ : ∃ n, k = n + 1 := ⟨k - 1, by omega⟩
    have hlt : i < l.length := by omega
    simp only [laws_toClueS.l0]
    rw [if_pos (by omega), if_pos (by omega), rd_at1 l i hlt]
    simp only [laws_toClue.f, Option.bind_some]
    rw [if_pos (by omega), wrap_nat (by omega), Int.toNat_natCast]
    refine ih (i + 1) k _ (by omega) (by omega) (by simpa using hm) ?_
    rw [List.take_succ_eq_append_getElem (by simpa [hm] using hlt), List.take_set_of_le (Nat.le_refl _), ht, List.take_succ_eq_append_getElem hlt, List.map_append]
    congr 1
    simp [conv]
theorem toPuzzle_ev (l : List C1) (hl : l.length ≤ 1048576) : Ev (fun k => laws_toPuzzle.f k l) (l.map conv) := by
  refine ev_from (l.length + 1) (fun k hk => ?_)
  unfold laws_toPuzzle.f laws_toClueS.f
  rw [if_pos (by omega), if_pos (by simp; omega), Int.toNat_natCast, show (0 : Int) = ((0 : Nat) : Int) from rfl, toClueS_loop l hl l.length 0 k _ (by omega) (by omega) (by simp) (by simp)]
  rfl
theorem pzGood_loop (l : List C2) (hl : l.length ≤ 6) : ∀ (d i k : Nat), i + d = l.length → d < k → spec_pzGood.l0 k l (l.length : Int) (i : Int) = some ((l.drop i).all clueS) := by
  intro d
  induction d with
  | zero =>
    intro i k hi hk
    obtain ⟨k, rfl⟩ : ∃ n, k = n + 1 := ⟨k - 1, by omega⟩
    simp only [spec_pzGood.l0]
    rw [if_neg (by omega), List.drop_eq_nil_of_le (by omega)]; rfl
  | succ d ih =>
    intro i k hi hk
    obtain ⟨k, rfl⟩ : ∃ n, k = n + 1 := ⟨k - 1, by omega⟩
    have hlt : i < l.length := by omega
    simp only [spec_pzGood.l0]
    rw [if_pos (by omega), if_pos (by omega), if_pos (by omega), rd_at l i hlt, specClue_eq, Option.bind_some, List.drop_eq_getElem_cons hlt, List.all_cons]
    show (if clueS l[i] = true then _ else _) = _
    cases hc : clueS l[i] with
    | true => rw [if_pos rfl, wrap_nat (by omega), ih (i + 1) k (by omega) (by omega)]; simp
    | false => rw [if_neg (by decide)]; simp
theorem pzGood_ev (l : List C2) : Ev (fun k => spec_pzGood.f k l) (goodB l) := by
  unfold spec_pzGood.f goodB
  by_cases h : l.length ≤ 6
  · refine ev_from (l.length + 1) (fun k hk => ?_)
    rw [if_neg (by omega), show (0 : Int) = ((0 : Nat) : Int) from rfl, pzGood_loop l h l.length 0 k (by omega) (by omega)]
    simp [h]
  · refine ev_from (0) (fun k _ => ?_)
    rw [if_pos (by omega)]; simp [h]
theorem isPuzzle_ev (l : List C2) : Ev (fun k => impl_IsPuzzle.f k l) (goodB l) := by
  refine ev_from (1) (fun k hk => ?_)
  obtain ⟨k, rfl⟩ : ∃ m, k = m + 1 := ⟨k - 1, by omega⟩
  unfold impl_IsPuzzle.f goodB
  by_cases h : l.length ≤ 6
  · rw [if_pos (by omega), Fn.anyO_some (f := fun x => !clueS x) l (fun x _ => by show impl_IsPuzzle_1.f _ _ _ _ = _; unfold impl_IsPuzzle_1.f; rw [implClue_eq]; rfl)]
    simp [h, List.all_eq_not_any_not]
  · rw [if_neg (by omega)]; simp [h]
theorem eqClue_eq (x y : C2) : laws_eqClue.f x.f0 x.f1 x.f2 y.f0 y.f1 y.f2 = some (decide (x.f0 = y.f0 ∧ x.f1 = y.f1 ∧ x.f2 = y.f2)) := by
  unfold laws_eqClue.f
  by_cases h0 : x.f0 = y.f0 <;> by_cases h1 : x.f1 = y.f1 <;> by_cases h2 : x.f2 = y.f2 <;> simp [h0, h1, h2]
theorem eqClueS_loop (l : List C2) (hl : l.length ≤ 1048577) : ∀ (d i k : Nat), i + d = l.length → d < k → laws_eqClueS.l0 k l l (i : Int) = some true := by
  intro d
  induction d with
  | zero =>
    intro i k hi hk
    obtain ⟨k, rfl⟩ : ∃ n, k = n + 1 := ⟨k - 1, by omega⟩
    simp only [laws_eqClueS.l0]
    rw [if_neg (by omega)]
  | succ d ih =>
    intro i k hi hk
    obtain ⟨k, rfl⟩ : ∃ n, k = n + 1 := ⟨k - 1, by omega⟩
    have hlt : i < l.length := by omega
    simp only [laws_eqClueS.l0]
    rw [if_pos (by omega), if_pos (by omega), if_pos (by omega), eqClue_eq, Option.bind_some, if_pos (by simp), wrap_nat (by omega), ih (i + 1) k (by omega) (by omega)]
theorem eqPuzzle_ev (l : List C2) (hl : l.length ≤ 1048577) : Ev (fun k => laws_eqPuzzle.f k l l) true := by
  refine ev_from (l.length + 1) (fun k hk => ?_)
  unfold laws_eqPuzzle.f laws_eqClueS.f
  rw [if_pos rfl, show (0 : Int) = ((0 : Nat) : Int) from rfl, eqClueS_loop l hl l.length 0 k (by omega) (by omega)]
  rfl
theorem nDig_le (n : Nat) : ∀ k, 0 < k → n < 10 ^ k → Lib.nDigits n ≤ k := by
  induction n using Nat.strongRecOn with
  | _ n ih =>
    intro k hk h
    by_cases c : n < 10
    · rw [Lib.nDigits_small c]; exact hk
    · rw [Lib.nDigits_big c]
      obtain ⟨k, rfl⟩ : ∃ j, k = j + 1 := ⟨k - 1, by omega⟩
      have hk1 : 0 < k := by
        rcases Nat.eq_zero_or_pos k with e | e
        · subst e; simp at h; omega
        · exact e
      have := ih (n / 10) (by omega) k hk1 (by rw [Nat.pow_succ] at h; omega)
      omega

/-! ### the reference's own decimals -/
theorem strOne (x : Int) (h0 : 0 ≤ x) (h : x < 256) : strOfNums [x] = (⟨[UInt8.ofNat x.toNat].toArray⟩ : ByteArray) := by
  unfold strOfNums
  simp
theorem l1Num_ev (n : Nat) (hn : n ≤ 9223372036854775807) : Ev (fun k => spec_l1Num.f k (n : Int)) ⟨(Lib.decDigits n).toArray⟩ := by
  induction n using Nat.strongRecOn with
  | _ n ih =>
    refine ev_succ ?_
    simp only [spec_l1Num.f]
    by_cases h : n < 10
    · refine ev_pos (by omega) (ev_eq fun _ => ?_)
      have e : wrap64 (48 + (n : Int)) % 256 = 48 + (n : Int) := by rw [wrap_of (by omega) (by omega)]; omega
      rw [e, strOne _ (by omega) (by omega), Lib.decDigits_one h, show (48 + (n : Int)).toNat = 48 + n by omega]
    · refine ev_neg (by omega) ?_
      have e1 : wrap64 (Int.tdiv (n : Int) 10) = ((n / 10 : Nat) : Int) := by
        rw [Int.tdiv_eq_ediv_of_nonneg (by omega), wrap_of (by omega) (by omega)]; omega
      rw [e1]
      have hd := ih (n / 10) (by omega) (by omega)
      refine Ev.bind hd (ev_eq fun _ => ?_)
      have e2 : Int.tmod (n : Int) 10 = ((n % 10 : Nat) : Int) := by rw [Int.tmod_eq_emod_of_nonneg (by omega)]; omega
      have e3 : wrap64 (48 + ((n % 10 : Nat) : Int)) % 256 = 48 + ((n % 10 : Nat) : Int) := by rw [wrap_of (by omega) (by omega)]; omega
      rw [e2, e3]
      simp only [Option.bind_some]
      rw [strOne _ (by omega) (by omega), show (48 + ((n % 10 : Nat) : Int)).toNat = 48 + n % 10 by omega]
      have hl := nDig_le (n / 10) 19 (by omega) (by omega)
      rw [mk_size, mk_size, Lib.decDigits_length, if_pos (by simp; omega), mk_append]
      congr 3
      rw [Lib.decDigits.eq_1 n, dif_neg h]

/-! ### the text of a puzzle -/
def word (x : C2) : List UInt8 := Lib.decDigits x.f0.toNat ++ [46] ++ Lib.decDigits x.f1.toNat ++ [46] ++ Lib.decDigits x.f2.toNat
def ptext (l : List C2) : List UInt8 := Lib.join (l.map word) [44]
theorem clue_bounds {x : C2} (h : clueS x = true) : 0 ≤ x.f0 ∧ x.f0 ≤ 5 ∧ 0 ≤ x.f1 ∧ x.f1 ≤ 3 ∧ 0 ≤ x.f2 ∧ x.f2 ≤ 20 := by
  unfold clueS clueB at h
  have := of_decide_eq_true h
  omega
theorem word_len {x : C2} (h : clueS x = true) : (word x).length ≤ 8 := by
  have hb := clue_bounds h
  have h0 := nDig_le x.f0.toNat 2 (by omega) (by omega)
  have h1 := nDig_le x.f1.toNat 2 (by omega) (by omega)
  have h2 := nDig_le x.f2.toNat 2 (by omega) (by omega)
  have g0 := nDig_le x.f0.toNat 1 (by omega) (by omega)
  have g1 := nDig_le x.f1.toNat 1 (by omega) (by omega)
  unfold word
  simp only [List.length_append, List.length_cons, List.length_nil, Lib.decDigits_length]
  omega
theorem join_snoc (a : List (List UInt8)) (y s : List UInt8) (h : a ≠ []) : Lib.join (a ++ [y]) s = Lib.join a s ++ s ++ y := by
  cases a with
  | nil => exact absurd rfl h
  | cons x r => rw [List.cons_append, Lib.join_cons, Lib.join_cons, Lib.joinTail, Lib.joinTail, List.map_append, List.flatten_append]; simp
theorem ptext_len (l : List C2) (hl : ∀ x ∈ l, clueS x = true) : (ptext l).length ≤ 9 * l.length := by
  cases l with
  | nil => simp [ptext, Lib.join_nil]
  | cons x r =>
    unfold ptext
    rw [List.map_cons, Lib.join_cons, List.length_append]
    have hx := word_len (hl x (List.mem_cons_self ..))
    have hr : ∀ r : List C2, (∀ x ∈ r, clueS x = true) → (Lib.joinTail [44] (r.map word)).length ≤ 9 * r.length := by
      intro r
      induction r with
      | nil => intro _; simp [Lib.joinTail]
      | cons y r ih =>
        intro h
        have h1 := word_len (h y (List.mem_cons_self ..))
        have h2 := ih (fun z hz => h z (List.mem_cons_of_mem _ hz))
        unfold Lib.joinTail at h2 ⊢
        simp only [List.map_cons, List.flatten_cons, List.length_append, List.length_cons, List.length_nil] at h2 ⊢
        omega
    have := hr r (fun z hz => hl z (List.mem_cons_of_mem _ hz))
    simp only [List.length_cons]
    omega
theorem itoa_small (n : Int) (h0 : 0 ≤ n) (h : n < 100) : strconv_Itoa.f n = some ⟨(Lib.decDigits n.toNat).toArray⟩ := by
  unfold strconv_Itoa.f
  rw [if_pos h0, if_pos h]
theorem l1Num_int (n : Int) (h0 : 0 ≤ n) (h : n ≤ 9223372036854775807) : Ev (fun k => spec_l1Num.f k n) ⟨(Lib.decDigits n.toNat).toArray⟩ := by
  have h := l1Num_ev n.toNat (by omega)
  rw [Int.toNat_of_nonneg h0] at h
  exact h
theorem m46 : (⟨#[46]⟩ : ByteArray) = ⟨[46].toArray⟩ := rfl
theorem m44 : (⟨#[44]⟩ : ByteArray) = ⟨[44].toArray⟩ := rfl
theorem pzText_loop (l : List C2) (hl : ∀ x ∈ l, clueS x = true) (h6 : l.length ≤ 6) : ∀ (d i : Nat), i + d = l.length → Ev (fun k => spec_pzText.l0 k ⟨(ptext (l.take i)).toArray⟩ l (l.length : Int) (i : Int)) ⟨(ptext l).toArray⟩ := by
  intro d
  induction d with
  | zero =>
    intro i hi
    refine ev_succ ?_
    simp only [spec_pzText.l0]
    rw [List.take_of_length_le (by omega)]
    exact ev_neg (by omega) (ev_eq fun _ => rfl)
  | succ d ih =>
    intro i hi
    refine ev_succ ?_
    simp only [spec_pzText.l0]
    have hlt : i < l.length := by omega
    have hb := clue_bounds (hl l[i] (List.getElem_mem hlt))
    have g0 := nDig_le l[i].f0.toNat 2 (by omega) (by omega)
    have g1 := nDig_le l[i].f1.toNat 2 (by omega) (by omega)
    have g2 := nDig_le l[i].f2.toNat 2 (by omega) (by omega)
    have hlen := ptext_len (l.take i) (fun x hx => hl x (List.mem_of_mem_take hx))
    rw [List.length_take] at hlen
    rw [rd_at l i hlt, m46, m44]
    have ihh := ih (i + 1) (by omega)
    rw [List.take_succ_eq_append_getElem hlt] at ihh
    have key : ∀ w, w = word l[i] → ptext (l.take i ++ [l[i]]) = if i = 0 then w else ptext (l.take i) ++ [44] ++ w := by
      rintro w rfl
      unfold ptext
      rw [List.map_append, List.map_cons, List.map_nil]
      by_cases c : i = 0
      · subst c; rw [if_pos rfl]; simp [Lib.join_one]
      · rw [if_neg c, join_snoc _ _ _ (fun e => by have e := congrArg List.length e; rw [List.length_map, List.length_take, List.length_nil] at e; omega)]
    have kw := key _ rfl
    rw [wrap_nat (by omega)]
    refine ev_pos (by omega) (ev_pos (by omega) (ev_pos (by omega) ?_))
    by_cases c : i = 0
    · subst c
      rw [if_pos rfl] at kw
      refine ev_neg (by omega) (Ev.bind (l1Num_int _ hb.1 (by omega)) (ev_pos (by rw [mk_size, Lib.decDigits_length]; omega) (Ev.bind (l1Num_int _ hb.2.2.1 (by omega)) ?_)))
      simp only [mk_append, mk_size, List.length_append, Lib.decDigits_length, List.length_cons, List.length_nil]
      refine ev_pos (by omega) (ev_pos (by omega) (Ev.bind (l1Num_int _ hb.2.2.2.2.1 (by omega)) ?_))
      simp only [mk_append, mk_size, List.length_append, Lib.decDigits_length, List.length_cons, List.length_nil]
      have e0 : ptext (List.take 0 l) = [] := rfl
      rw [e0] at hlen ⊢
      simp only [List.nil_append, List.length_nil]
      refine ev_pos (by omega) (ev_pos (by omega) ?_)
      rw [kw] at ihh
      unfold word at ihh
      exact ihh
    · rw [if_neg c] at kw
      refine ev_pos (by omega) (ev_pos (by rw [mk_size]; omega) (Ev.bind (l1Num_int _ hb.1 (by omega)) (ev_pos (by rw [mk_size, Lib.decDigits_length]; omega) (Ev.bind (l1Num_int _ hb.2.2.1 (by omega)) ?_))))
      simp only [mk_append, mk_size, List.length_append, Lib.decDigits_length, List.length_cons, List.length_nil]
      refine ev_pos (by omega) (ev_pos (by omega) (Ev.bind (l1Num_int _ hb.2.2.2.2.1 (by omega)) ?_))
      simp only [mk_append, mk_size, List.length_append, Lib.decDigits_length, List.length_cons, List.length_nil]
      refine ev_pos (by omega) (ev_pos (by omega) ?_)
      rw [kw] at ihh
      unfold word at ihh
      exact ihh
theorem pzText_ev (l : List C2) (hl : ∀ x ∈ l, clueS x = true) (h6 : l.length ≤ 6) : Ev (fun k => spec_pzText.f k l) ⟨(ptext l).toArray⟩ := by
  unfold spec_pzText.f
  exact pzText_loop l hl h6 l.length 0 (by omega)
theorem puzzleText_loop (l : List C2) (hl : ∀ x ∈ l, clueS x = true) (h6 : l.length ≤ 6) : ∀ (d i : Nat), i + d = l.length → Ev (fun k => impl_puzzleText.l0 k ((l.take i).map fun x => (⟨(word x).toArray⟩ : ByteArray)) l (l.length : Int) (i : Int)) ⟨(ptext l).toArray⟩ := by
  intro d
  induction d with
  | zero =>
    intro i hi
    refine ev_succ ?_
    simp only [impl_puzzleText.l0]
    rw [List.take_of_length_le (by omega)]
    refine ev_neg (by omega) (ev_bind ?_ (ev_eq fun _ => rfl))
    unfold strings_Join.f
    have e : ((l.map fun x => (⟨(word x).toArray⟩ : ByteArray)).map fun x => x.data.toList) = l.map word := by
      rw [List.map_map]; apply List.map_congr_left; intro x _; simp
    have hj : Lib.join (l.map word) (⟨#[44]⟩ : ByteArray).data.toList = ptext l := rfl
    have hlen := ptext_len l hl
    rw [e, hj, if_pos (by simp; omega), if_pos (by omega)]
  | succ d ih =>
    intro i hi
    refine ev_succ ?_
    simp only [impl_puzzleText.l0]
    have hlt : i < l.length := by omega
    have hb := clue_bounds (hl l[i] (List.getElem_mem hlt))
    have g0 := nDig_le l[i].f0.toNat 2 (by omega) (by omega)
    have g1 := nDig_le l[i].f1.toNat 2 (by omega) (by omega)
    have g2 := nDig_le l[i].f2.toNat 2 (by omega) (by omega)
    rw [rd_at l i hlt, m46, wrap_nat (by omega)]
    have ihh := ih (i + 1) (by omega)
    rw [List.take_succ_eq_append_getElem hlt, List.map_append, List.map_cons, List.map_nil] at ihh
    refine ev_pos (by omega) (ev_pos (by omega) (ev_pos (by omega) (ev_bind (itoa_small _ hb.1 (by omega)) (ev_pos (by rw [mk_size, Lib.decDigits_length]; omega) (ev_bind (itoa_small _ hb.2.2.1 (by omega)) ?_)))))
    simp only [mk_append, mk_size, List.length_append, Lib.decDigits_length, List.length_cons, List.length_nil]
    refine ev_pos (by omega) (ev_pos (by omega) (ev_bind (itoa_small _ hb.2.2.2.2.1 (by omega)) ?_))
    simp only [mk_append, mk_size, List.length_append, Lib.decDigits_length, List.length_cons, List.length_nil]
    refine ev_pos (by omega) (ev_pos (by simp; omega) ?_)
    unfold word at ihh ⊢
    exact ihh
theorem puzzleText_ev (l : List C2) (hl : ∀ x ∈ l, clueS x = true) (h6 : l.length ≤ 6) : Ev (fun k => impl_puzzleText.f k l) ⟨(ptext l).toArray⟩ := by
  unfold impl_puzzleText.f
  exact puzzleText_loop l hl h6 l.length 0 (by omega)

theorem FnExactPuzzleText : ∀ (l0_0 : List S105), ((∀ y ∈ l0_0, ((Lit.int .i64 y.f0).wf = true ∧ (Lit.int .i64 y.f1).wf = true ∧ (Lit.int .i64 y.f2).wf = true)) ∧ l0_0.length ≤ maxLen) → ∃ k, laws_FnExactPuzzleText.f k l0_0 = some true := by
  rintro l ⟨_, hl⟩
  refine Ev.rounds ?_
  unfold laws_FnExactPuzzleText.f
  refine ev_bind (szPuzzle_eq l 1048576 (by omega) (by omega) hl) ?_
  by_cases h : (l.length : Int) ≤ 1048576
  · rw [if_pos h]
    refine ev_neg (by omega) ?_
    have hm : (l.map conv).length = l.length := by simp
    have hc : ∃ o, Ev (fun k => spec_PuzzleText.f k (l.map conv)) o ∧ Ev (fun k => impl_PuzzleText.f k (l.map conv)) o := by
      cases hg : goodB (l.map conv) with
      | false =>
        refine ⟨((⟨#[]⟩ : ByteArray), false), ?_, ?_⟩
        · unfold spec_PuzzleText.f
          exact Ev.bind (hg ▸ pzGood_ev _) (ev_neg (by decide) (ev_eq fun _ => rfl))
        · unfold impl_PuzzleText.f
          exact Ev.bind (hg ▸ isPuzzle_ev _) (ev_neg (by decide) (ev_eq fun _ => rfl))
      | true =>
        have hg2 := hg
        unfold goodB at hg2
        rw [Bool.and_eq_true, List.all_eq_true] at hg2
        have h6 := of_decide_eq_true hg2.1
        refine ⟨((⟨(ptext (l.map conv)).toArray⟩ : ByteArray), true), ?_, ?_⟩
        · unfold spec_PuzzleText.f
          exact Ev.bind (hg ▸ pzGood_ev _) (ev_pos rfl (Ev.bind (pzText_ev _ hg2.2 h6) (ev_eq fun _ => rfl)))
        · unfold impl_PuzzleText.f
          exact Ev.bind (hg ▸ isPuzzle_ev _) (ev_pos rfl (Ev.bind (puzzleText_ev _ hg2.2 h6) (ev_eq fun _ => rfl)))
    obtain ⟨o, h1, h2⟩ := hc
    refine Ev.bind (toPuzzle_ev l (by omega)) (Ev.bind h1 (Ev.bind (toPuzzle_ev l (by omega)) (Ev.bind h2 ?_)))
    refine ev_pos rfl (ev_neg (by simp) (Ev.bind (toPuzzle_ev l (by omega)) (Ev.bind (eqPuzzle_ev _ (by omega)) ?_)))
    exact ev_pos rfl (ev_eq fun _ => rfl)
  · rw [if_neg h]
    exact ev_pos (by omega) (ev_eq fun _ => rfl)

end Go.Proofs.YtjhmocngcnnfdaaDoor.Pure

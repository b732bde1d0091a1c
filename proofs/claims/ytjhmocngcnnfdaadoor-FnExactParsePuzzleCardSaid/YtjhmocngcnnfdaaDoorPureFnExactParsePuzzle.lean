/- ParsePuzzle: program and reference tell the same of every text (lists, numbers and texts alone). -/
import Derived.Test.YtjhmocngcnnfdaaDoorPFnExactParsePuzzlex8
namespace Go.Proofs.YtjhmocngcnnfdaaDoor.Pure
open Go.RowKit Go.Proofs.YtjhmocngcnnfdaaDoor.PFnExactParsePuzzle Go.Proofs.YtjhmocngcnnfdaaDoorW.PrintWords Go.Proofs.YtjhmocngcnnfdaaDoorW.PrintLast
set_option linter.unusedVariables false
set_option linter.unusedSimpArgs false

theorem wrap_of {x : Int} (h0 : -9223372036854775808 ≤ x) (h1 : x ≤ 9223372036854775807) : wrap64 x = x := by unfold wrap64; omega
theorem wrap_nat {i : Nat} (h : i < 4611686018427387904) : wrap64 ((i : Int) + 1) = ((i + 1 : Nat) : Int) := by unfold wrap64; omega
theorem ev_eq {α : Type} {g : Nat → Option α} {r : α} (h : ∀ k, g k = some r) : Ev g r := ⟨0, fun k _ => h k⟩
theorem ev_bind {α β : Type} {x : Option α} {f : Nat → α → Option β} {a : α} {r : β} (h : x = some a) (k : Ev (fun n => f n a) r) : Ev (fun n => x.bind (f n)) r := by subst h; exact k
theorem ev_pos {α : Type} {c : Prop} [Decidable c] {g f : Nat → Option α} {r : α} (h : c) (k : Ev g r) : Ev (fun n => if c then g n else f n) r := by simp only [if_pos h]; exact k
theorem ev_neg {α : Type} {c : Prop} [Decidable c] {g f : Nat → Option α} {r : α} (h : ¬ c) (k : Ev f r) : Ev (fun n => if c then g n else f n) r := by simp only [if_neg h]; exact k
theorem ev_from {α : Type} {g : Nat → Option α} {r : α} (K : Nat) (h : ∀ k, K ≤ k → g k = some r) : Ev g r := ⟨K, h⟩

/-! ### bytes of a text -/
theorem size_len (t : ByteArray) : t.data.toList.length = t.size := by rw [Array.length_toList]; rfl
theorem bt_get (t : ByteArray) (i : Nat) (h : i < t.data.toList.length) : bt t (i : Int) = ((t.data.toList[i]).toNat : Int) := by
  unfold bt
  rw [dif_pos (by rw [Int.toNat_natCast]; simpa using h)]
  simp only [Int.toNat_natCast]
  rfl
theorem ev_succ {α : Type} {g : Nat → Option α} {r : α} (h : Ev (fun k => g (k + 1)) r) : Ev g r := by
  obtain ⟨K, hK⟩ := h
  refine ev_from (K + 1) (fun k hk => ?_)
  obtain ⟨k, rfl⟩ : ∃ m, k = m + 1 := ⟨k - 1, by omega⟩
  exact hK k (by omega)
theorem ext_list (s : ByteArray) (a b : Nat) (hb : b ≤ s.size) : (s.extract a b).data.toList = (s.data.toList.take b).drop a := by
  rw [ByteArray.data_extract, Array.toList_extract, List.extract_eq_take_drop]
  rw [List.drop_take]
theorem take_list (s : ByteArray) (i : Nat) (h : i ≤ s.size) : (s.extract 0 i).data.toList = s.data.toList.take i := by rw [ext_list s 0 i h]; rfl
theorem drop_list (s : ByteArray) (i : Nat) : (s.extract i s.size).data.toList = s.data.toList.drop i := by
  rw [ext_list s i s.size (Nat.le_refl _), List.take_of_length_le (by rw [size_len]; exact Nat.le_refl _)]
theorem mk_data (s : ByteArray) : (⟨s.data.toList.toArray⟩ : ByteArray) = s := by cases s; simp
theorem of_list {s : ByteArray} {l : List UInt8} (h : s.data.toList = l) : s = ⟨l.toArray⟩ := by rw [← h, mk_data]
theorem list_of (l : List UInt8) : (⟨l.toArray⟩ : ByteArray).data.toList = l := by simp
theorem mk_size (l : List UInt8) : (⟨l.toArray⟩ : ByteArray).size = l.length := by rw [← size_len, list_of]
theorem mk_append (a b : List UInt8) : (⟨a.toArray⟩ : ByteArray) ++ ⟨b.toArray⟩ = ⟨(a ++ b).toArray⟩ := by
  apply of_list; rw [ByteArray.data_append, Array.toList_append, list_of, list_of]

/-! ### clues -/
def clueB (k a b : Int) : Bool :=
  decide (0 ≤ b ∧ b ≤ 20 ∧ ((k = 0 ∧ 0 ≤ a ∧ a ≤ 1) ∨ (k = 1 ∧ 0 ≤ a ∧ a ≤ 3) ∨ (k = 2 ∧ a = 0 ∧ b < 2) ∨ (k = 3 ∧ 0 ≤ a ∧ a ≤ 2 ∧ b < 2) ∨ (k = 4 ∧ a = 0) ∨ (k = 5 ∧ a = 0 ∧ 2 ≤ b ∧ b ≤ 9)))
theorem l1In_eq (n lo hi : Int) : spec_l1In.f n lo hi = some (decide (lo ≤ n ∧ n ≤ hi)) := by
  unfold spec_l1In.f
  by_cases h : n ≥ lo
  · rw [if_pos h]; congr 1; simp; intro _; omega
  · rw [if_neg h]; congr 1; simp; intro; omega
theorem within_eq (n lo hi : Int) : impl_within.f n lo hi = some (decide (lo ≤ n ∧ n ≤ hi)) := by
  unfold impl_within.f
  by_cases h : lo ≤ n
  · rw [if_pos h]; congr 1; simp; intro _; omega
  · rw [if_neg h]; congr 1; simp; intro; omega
theorem specClue_eq (k a b : Int) : spec_pzClue.f k a b = some (clueB k a b) := by
  unfold spec_pzClue.f clueB
  simp only [l1In_eq, Option.bind_some]
  by_cases hb : 0 ≤ b ∧ b ≤ 20
  · rw [if_pos (by simpa using hb)]
    by_cases h0 : k = 0
    · subst h0; simp [hb]
    rw [if_neg h0]
    by_cases h1 : k = 1
    · subst h1; simp [hb]
    rw [if_neg h1]
    by_cases h2 : k = 2
    · subst h2; by_cases ha : a = 0 <;> simp [hb, ha]
    rw [if_neg h2]
    by_cases h3 : k = 3
    · subst h3; by_cases ha : 0 ≤ a ∧ a ≤ 2
      · simp [hb, ha]
      · have : ¬ (0 ≤ a ∧ a ≤ 2 ∧ b < 2) := fun h => ha ⟨h.1, h.2.1⟩
        simp [hb, ha, this]
    rw [if_neg h3]
    by_cases h4 : k = 4
    · subst h4; by_cases ha : a = 0 <;> simp [hb, ha]
    rw [if_neg h4]
    by_cases h5 : k = 5
    · subst h5; by_cases ha : a = 0 <;> simp [hb, ha]
    · rw [if_neg h5]; simp [hb, h0, h1, h2, h3, h4, h5]
  · rw [if_neg (by simpa using hb)]
    congr 1
    symm
    apply decide_eq_false
    rintro ⟨x, y, _⟩
    exact hb ⟨x, y⟩
theorem implClue_eq (n : Nat) (k a b : Int) : impl_IsClue.f (n + 1) k a b = some (clueB k a b) := by
  unfold impl_IsClue.f clueB
  simp only [within_eq, Option.bind_some]
  by_cases hk : 0 ≤ k ∧ k ≤ 5
  · rw [if_pos (by simpa using hk), if_pos hk.1, if_pos (by simp; omega)]
    have : k = 0 ∨ k = 1 ∨ k = 2 ∨ k = 3 ∨ k = 4 ∨ k = 5 := by omega
    rcases this with rfl | rfl | rfl | rfl | rfl | rfl
    all_goals
      by_cases ha : 0 ≤ a
      all_goals by_cases hb : 0 ≤ b
      all_goals simp [impl_IsClue.j0, within_eq, rd, ha, hb]
      all_goals try split
      all_goals try (simp; omega)
      all_goals try omega
      all_goals (congr 1; rw [Bool.eq_iff_iff]; simp; omega)
  · rw [if_neg (by simpa using hk)]
    congr 1
    symm
    apply decide_eq_false
    omega
theorem implClue_ev (k a b : Int) : Ev (fun n => impl_IsClue.f n k a b) (clueB k a b) := ⟨1, fun n hn => by obtain ⟨m, rfl⟩ : ∃ m, n = m + 1 := ⟨n - 1, by omega⟩; exact implClue_eq m k a b⟩

/-! ### puzzles -/
abbrev C2 := S96
def clueS (x : C2) : Bool := clueB x.f0 x.f1 x.f2
def goodB (l : List C2) : Bool := decide (l.length ≤ 6) && l.all clueS
theorem rd_at (l : List C2) (i : Nat) (h : i < l.length) : rd_T96 l (i : Int) = l[i] := by
  unfold rd_T96
  rw [Int.toNat_natCast, List.getD_eq_getElem?_getD, List.getElem?_eq_getElem h]; rfl
theorem pzGood_loop (l : List C2) (hl : l.length ≤ 6) : ∀ (d i k : Nat), i + d = l.length → d < k → spec_pzGood.l0 k l (l.length : Int) (i : Int) = some ((l.drop i).all clueS) := by
  intro d
  induction d with
  | zero =>
    intro i k hi hk
    obtain ⟨k, rfl⟩ : ∃ n, k = n + 1 := ⟨k - 1, by omega⟩
    simp only [spec_pzGood.l0]
    rw [if_neg (by omega), List.drop_eq_nil_of_le (by omega)]; rfl
  | succ d ih =>
    intro i k hi hk
    obtain ⟨k, rfl⟩ : ∃ n, k = n + 1 := ⟨k - 1, by omega⟩
    have hlt : i < l.length := by omega
    simp only [spec_pzGood.l0]
    rw [if_pos (by omega), if_pos (by omega), if_pos (by omega), rd_at l i hlt, specClue_eq, Option.bind_some, List.drop_eq_getElem_cons hlt, List.all_cons]
    show (if clueS l[i] = true then _ else _) = _
    cases hc : clueS l[i] with
    | true => rw [if_pos rfl, wrap_nat (by omega), ih (i + 1) k (by omega) (by omega)]; simp
    | false => rw [if_neg (by decide)]; simp
theorem pzGood_ev (l : List C2) : Ev (fun k => spec_pzGood.f k l) (goodB l) := by
  unfold spec_pzGood.f goodB
  by_cases h : l.length ≤ 6
  · refine ev_from (l.length + 1) (fun k hk => ?_)
    rw [if_neg (by omega), show (0 : Int) = ((0 : Nat) : Int) from rfl, pzGood_loop l h l.length 0 k (by omega) (by omega)]
    simp [h]
  · refine ev_from (0) (fun k _ => ?_)
    rw [if_pos (by omega)]; simp [h]
theorem isPuzzle_ev (l : List C2) : Ev (fun k => impl_IsPuzzle.f k l) (goodB l) := by
  refine ev_from (1) (fun k hk => ?_)
  obtain ⟨k, rfl⟩ : ∃ m, k = m + 1 := ⟨k - 1, by omega⟩
  unfold impl_IsPuzzle.f goodB
  by_cases h : l.length ≤ 6
  · rw [if_pos (by omega), Fn.anyO_some (f := fun x => !clueS x) l (fun x _ => by show impl_IsPuzzle_1.f _ _ _ _ = _; unfold impl_IsPuzzle_1.f; rw [implClue_eq]; rfl)]
    simp [h, List.all_eq_not_any_not]
  · rw [if_neg (by omega)]; simp [h]
theorem nDig_le (n : Nat) : ∀ k, 0 < k → n < 10 ^ k → Lib.nDigits n ≤ k := by
  induction n using Nat.strongRecOn with
  | _ n ih =>
    intro k hk h
    by_cases c : n < 10
    · rw [Lib.nDigits_small c]; exact hk
    · rw [Lib.nDigits_big c]
      obtain ⟨k, rfl⟩ : ∃ j, k = j + 1 := ⟨k - 1, by omega⟩
      have hk1 : 0 < k := by
        rcases Nat.eq_zero_or_pos k with e | e
        · subst e; simp at h; omega
        · exact e
      have := ih (n / 10) (by omega) k hk1 (by rw [Nat.pow_succ] at h; omega)
      omega

/-! ### the reference's own decimals -/
theorem strOne (x : Int) (h0 : 0 ≤ x) (h : x < 256) : strOfNums [x] = (⟨[UInt8.ofNat x.toNat].toArray⟩ : ByteArray) := by
  unfold strOfNums
  simp
theorem l1Num_ev (n : Nat) (hn : n ≤ 9223372036854775807) : Ev (fun k => spec_l1Num.f k (n : Int)) ⟨(Lib.decDigits n).toArray⟩ := by
  induction n using Nat.strongRecOn with
  | _ n ih =>
    refine ev_succ ?_
    simp only [spec_l1Num.f]
    by_cases h : n < 10
    · refine ev_pos (by omega) (ev_eq fun _ => ?_)
      have e : wrap64 (48 + (n : Int)) % 256 = 48 + (n : Int) := by rw [wrap_of (by omega) (by omega)]; omega
      rw [e, strOne _ (by omega) (by omega), Lib.decDigits_one h, show (48 + (n : Int)).toNat = 48 + n by omega]
    · refine ev_neg (by omega) ?_
      have e1 : wrap64 (Int.tdiv (n : Int) 10) = ((n / 10 : Nat) : Int) := by
        rw [Int.tdiv_eq_ediv_of_nonneg (by omega), wrap_of (by omega) (by omega)]; omega
      rw [e1]
      have hd := ih (n / 10) (by omega) (by omega)
      refine Ev.bind hd (ev_eq fun _ => ?_)
      have e2 : Int.tmod (n : Int) 10 = ((n % 10 : Nat) : Int) := by rw [Int.tmod_eq_emod_of_nonneg (by omega)]; omega
      have e3 : wrap64 (48 + ((n % 10 : Nat) : Int)) % 256 = 48 + ((n % 10 : Nat) : Int) := by rw [wrap_of (by omega) (by omega)]; omega
      rw [e2, e3]
      simp only [Option.bind_some]
      rw [strOne _ (by omega) (by omega), show (48 + ((n % 10 : Nat) : Int)).toNat = 48 + n % 10 by omega]
      have hl := nDig_le (n / 10) 19 (by omega) (by omega)
      rw [mk_size, mk_size, Lib.decDigits_length, if_pos (by simp; omega), mk_append]
      congr 3
      rw [Lib.decDigits.eq_1 n, dif_neg h]
theorem itoa_small (n : Int) (h0 : 0 ≤ n) (h : n < 100) : strconv_Itoa.f n = some ⟨(Lib.decDigits n.toNat).toArray⟩ := by
  unfold strconv_Itoa.f
  rw [if_pos (by omega), if_pos (by omega)]
  unfold Lib.itoa
  rw [if_neg (by omega)]

/-! ### the text of a puzzle -/
def word (x : C2) : List UInt8 := Lib.decDigits x.f0.toNat ++ [46] ++ Lib.decDigits x.f1.toNat ++ [46] ++ Lib.decDigits x.f2.toNat
def ptext (l : List C2) : List UInt8 := Lib.join (l.map word) [44]
theorem clue_bounds {x : C2} (h : clueS x = true) : 0 ≤ x.f0 ∧ x.f0 ≤ 5 ∧ 0 ≤ x.f1 ∧ x.f1 ≤ 3 ∧ 0 ≤ x.f2 ∧ x.f2 ≤ 20 := by
  unfold clueS clueB at h
  have := of_decide_eq_true h
  omega
theorem word_len {x : C2} (h : clueS x = true) : (word x).length ≤ 8 := by
  have hb := clue_bounds h
  have h0 := nDig_le x.f0.toNat 2 (by omega) (by omega)
  have h1 := nDig_le x.f1.toNat 2 (by omega) (by omega)
  have h2 := nDig_le x.f2.toNat 2 (by omega) (by omega)
  have g0 := nDig_le x.f0.toNat 1 (by omega) (by omega)
  have g1 := nDig_le x.f1.toNat 1 (by omega) (by omega)
  unfold word
  simp only [List.length_append, List.length_cons, List.length_nil, Lib.decDigits_length]
  omega
theorem join_snoc (a : List (List UInt8)) (y s : List UInt8) (h : a ≠ []) : Lib.join (a ++ [y]) s = Lib.join a s ++ s ++ y := by
  cases a with
  | nil => exact absurd rfl h
  | cons x r => rw [List.cons_append, Lib.join_cons, Lib.join_cons, Lib.joinTail, Lib.joinTail, List.map_append, List.flatten_append]; simp
theorem ptext_len (l : List C2) (hl : ∀ x ∈ l, clueS x = true) : (ptext l).length ≤ 9 * l.length := by
  cases l with
  | nil => simp [ptext, Lib.join_nil]
  | cons x r =>
    unfold ptext
    rw [List.map_cons, Lib.join_cons, List.length_append]
    have hx := word_len (hl x (List.mem_cons_self ..))
    have hr : ∀ r : List C2, (∀ x ∈ r, clueS x = true) → (Lib.joinTail [44] (r.map word)).length ≤ 9 * r.length := by
      intro r
      induction r with
      | nil => intro _; simp [Lib.joinTail]
      | cons y r ih =>
        intro h
        have h1 := word_len (h y (List.mem_cons_self ..))
        have h2 := ih (fun z hz => h z (List.mem_cons_of_mem _ hz))
        unfold Lib.joinTail at h2 ⊢
        simp only [List.map_cons, List.flatten_cons, List.length_append, List.length_cons, List.length_nil] at h2 ⊢
        omega
    have := hr r (fun z hz => hl z (List.mem_cons_of_mem _ hz))
    simp only [List.length_cons]
    omega
theorem l1Num_int (n : Int) (h0 : 0 ≤ n) (h : n ≤ 9223372036854775807) : Ev (fun k => spec_l1Num.f k n) ⟨(Lib.decDigits n.toNat).toArray⟩ := by
  have h := l1Num_ev n.toNat (by omega)
  rw [Int.toNat_of_nonneg h0] at h
  exact h
theorem m46 : (⟨#[46]⟩ : ByteArray) = ⟨[46].toArray⟩ := rfl
theorem m44 : (⟨#[44]⟩ : ByteArray) = ⟨[44].toArray⟩ := rfl
theorem pzText_loop (l : List C2) (hl : ∀ x ∈ l, clueS x = true) (h6 : l.length ≤ 6) : ∀ (d i : Nat), i + d = l.length → Ev (fun k => spec_pzText.l0 k ⟨(ptext (l.take i)).toArray⟩ l (l.length : Int) (i : Int)) ⟨(ptext l).toArray⟩ := by
  intro d
  induction d with
  | zero =>
    intro i hi
    refine ev_succ ?_
    simp only [spec_pzText.l0]
    rw [List.take_of_length_le (by omega)]
    exact ev_neg (by omega) (ev_eq fun _ => rfl)
  | succ d ih =>
    intro i hi
    refine ev_succ ?_
    simp only [spec_pzText.l0]
    have hlt : i < l.length := by omega
    have hb := clue_bounds (hl l[i] (List.getElem_mem hlt))
    have g0 := nDig_le l[i].f0.toNat 2 (by omega) (by omega)
    have g1 := nDig_le l[i].f1.toNat 2 (by omega) (by omega)
    have g2 := nDig_le l[i].f2.toNat 2 (by omega) (by omega)
    have hlen := ptext_len (l.take i) (fun x hx => hl x (List.mem_of_mem_take hx))
    rw [List.length_take] at hlen
    rw [rd_at l i hlt, m46, m44]
    have ihh := ih (i + 1) (by omega)
    rw [List.take_succ_eq_append_getElem hlt] at ihh
    have key : ∀ w, w = word l[i] → ptext (l.take i ++ [l[i]]) = if i = 0 then w else ptext (l.take i) ++ [44] ++ w := by
      rintro w rfl
      unfold ptext
      rw [List.map_append, List.map_cons, List.map_nil]
      by_cases c : i = 0
      · subst c; rw [if_pos rfl]; simp [Lib.join_one]
      · rw [if_neg c, join_snoc _ _ _ (fun e => by have e := congrArg List.length e; rw [List.length_map, List.length_take, List.length_nil] at e; omega)]
    have kw := key _ rfl
    rw [wrap_nat (by omega)]
    refine ev_pos (by omega) (ev_pos (by omega) (ev_pos (by omega) ?_))
    by_cases c : i = 0
    · subst c
      rw [if_pos rfl] at kw
      refine ev_neg (by omega) (Ev.bind (l1Num_int _ hb.1 (by omega)) (ev_pos (by rw [mk_size, Lib.decDigits_length]; omega) (Ev.bind (l1Num_int _ hb.2.2.1 (by omega)) ?_)))
      simp only [mk_append, mk_size, List.length_append, Lib.decDigits_length, List.length_cons, List.length_nil]
      refine ev_pos (by omega) (ev_pos (by omega) (Ev.bind (l1Num_int _ hb.2.2.2.2.1 (by omega)) ?_))
      simp only [mk_append, mk_size, List.length_append, Lib.decDigits_length, List.length_cons, List.length_nil]
      have e0 : ptext (List.take 0 l) = [] := rfl
      rw [e0] at hlen ⊢
      simp only [List.nil_append, List.length_nil]
      refine ev_pos (by omega) (ev_pos (by omega) ?_)
      rw [kw] at ihh
      unfold word at ihh
      exact ihh
    · rw [if_neg c] at kw
      refine ev_pos (by omega) (ev_pos (by rw [mk_size]; omega) (Ev.bind (l1Num_int _ hb.1 (by omega)) (ev_pos (by rw [mk_size, Lib.decDigits_length]; omega) (Ev.bind (l1Num_int _ hb.2.2.1 (by omega)) ?_))))
      simp only [mk_append, mk_size, List.length_append, Lib.decDigits_length, List.length_cons, List.length_nil]
      refine ev_pos (by omega) (ev_pos (by omega) (Ev.bind (l1Num_int _ hb.2.2.2.2.1 (by omega)) ?_))
      simp only [mk_append, mk_size, List.length_append, Lib.decDigits_length, List.length_cons, List.length_nil]
      refine ev_pos (by omega) (ev_pos (by omega) ?_)
      rw [kw] at ihh
      unfold word at ihh
      exact ihh
theorem pzText_ev (l : List C2) (hl : ∀ x ∈ l, clueS x = true) (h6 : l.length ≤ 6) : Ev (fun k => spec_pzText.f k l) ⟨(ptext l).toArray⟩ := by
  unfold spec_pzText.f
  exact pzText_loop l hl h6 l.length 0 (by omega)
theorem puzzleText_loop (l : List C2) (hl : ∀ x ∈ l, clueS x = true) (h6 : l.length ≤ 6) : ∀ (d i : Nat), i + d = l.length → Ev (fun k => impl_puzzleText.l0 k ((l.take i).map fun x => (⟨(word x).toArray⟩ : ByteArray)) l (l.length : Int) (i : Int)) ⟨(ptext l).toArray⟩ := by
  intro d
  induction d with
  | zero =>
    intro i hi
    refine ev_succ ?_
    simp only [impl_puzzleText.l0]
    rw [List.take_of_length_le (by omega)]
    refine ev_neg (by omega) (ev_bind ?_ (ev_eq fun _ => rfl))
    unfold strings_Join.f
    have e : ((l.map fun x => (⟨(word x).toArray⟩ : ByteArray)).map fun x => x.data.toList) = l.map word := by
      rw [List.map_map]; apply List.map_congr_left; intro x _; simp
    have hj : Lib.join (l.map word) (⟨#[44]⟩ : ByteArray).data.toList = ptext l := rfl
    have hlen := ptext_len l hl
    rw [e, hj, if_pos (by simp; omega), if_pos (by omega)]
  | succ d ih =>
    intro i hi
    refine ev_succ ?_
    simp only [impl_puzzleText.l0]
    have hlt : i < l.length := by omega
    have hb := clue_bounds (hl l[i] (List.getElem_mem hlt))
    have g0 := nDig_le l[i].f0.toNat 2 (by omega) (by omega)
    have g1 := nDig_le l[i].f1.toNat 2 (by omega) (by omega)
    have g2 := nDig_le l[i].f2.toNat 2 (by omega) (by omega)
    rw [rd_at l i hlt, m46, wrap_nat (by omega)]
    have ihh := ih (i + 1) (by omega)
    rw [List.take_succ_eq_append_getElem hlt, List.map_append, List.map_cons, List.map_nil] at ihh
    refine ev_pos (by omega) (ev_pos (by omega) (ev_pos (by omega) (ev_bind (itoa_small _ hb.1 (by omega)) (ev_pos (by rw [mk_size, Lib.decDigits_length]; omega) (ev_bind (itoa_small _ hb.2.2.1 (by omega)) ?_)))))
    simp only [mk_append, mk_size, List.length_append, Lib.decDigits_length, List.length_cons, List.length_nil]
    refine ev_pos (by omega) (ev_pos (by omega) (ev_bind (itoa_small _ hb.2.2.2.2.1 (by omega)) ?_))
    simp only [mk_append, mk_size, List.length_append, Lib.decDigits_length, List.length_cons, List.length_nil]
    refine ev_pos (by omega) (ev_pos (by simp; omega) ?_)
    unfold word at ihh ⊢
    exact ihh
theorem puzzleText_ev (l : List C2) (hl : ∀ x ∈ l, clueS x = true) (h6 : l.length ≤ 6) : Ev (fun k => impl_puzzleText.f k l) ⟨(ptext l).toArray⟩ := by
  unfold impl_puzzleText.f
  exact puzzleText_loop l hl h6 l.length 0 (by omega)
theorem eqClue_eq (x y : C2) : laws_eqClue.f x.f0 x.f1 x.f2 y.f0 y.f1 y.f2 = some (decide (x.f0 = y.f0 ∧ x.f1 = y.f1 ∧ x.f2 = y.f2)) := by
  unfold laws_eqClue.f
  by_cases h0 : x.f0 = y.f0 <;> by_cases h1 : x.f1 = y.f1 <;> by_cases h2 : x.f2 = y.f2 <;> simp [h0, h1, h2]
theorem eqClueS_loop (l : List C2) (hl : l.length ≤ 1048577) : ∀ (d i k : Nat), i + d = l.length → d < k → laws_eqClueS.l0 k l l (i : Int) = some true := by
  intro d
  induction d with
  | zero =>
    intro i k hi hk
    obtain ⟨k, rfl⟩ : ∃ n, k = n + 1 := ⟨k - 1, by omega⟩
    simp only [laws_eqClueS.l0]
    rw [if_neg (by omega)]
  | succ d ih =>
    intro i k hi hk
    obtain ⟨k, rfl⟩ : ∃ n, k = n + 1 := ⟨k - 1, by omega⟩
    have hlt : i < l.length := by omega
    simp only [laws_eqClueS.l0]
    rw [if_pos (by omega), if_pos (by omega), if_pos (by omega), eqClue_eq, Option.bind_some, if_pos (by simp), wrap_nat (by omega), ih (i + 1) k (by omega) (by omega)]
theorem eqPuzzle_ev (l : List C2) (hl : l.length ≤ 1048577) : Ev (fun k => laws_eqPuzzle.f k l l) true := by
  refine ev_from (l.length + 1) (fun k hk => ?_)
  unfold laws_eqPuzzle.f laws_eqClueS.f
  rw [if_pos rfl, show (0 : Int) = ((0 : Nat) : Int) from rfl, eqClueS_loop l hl l.length 0 k (by omega) (by omega)]
  rfl
theorem mono_le {α : Type} {g : Nat → Option α} (hm : ∀ k, LeO (g k) (g (k + 1))) {K k : Nat} {r : α} (h : g K = some r) (hk : K ≤ k) : g k = some r := by
  induction k with
  | zero => obtain rfl : K = 0 := by omega
            exact h
  | succ k ih =>
    by_cases e : K = k + 1
    · subst e; exact h
    · exact hm k r (ih (by omega))

/-! ### marks -/
def mkC (a : Int) (j : Nat) : C2 := ⟨a + 3 * j, a + 3 * j + 1, a + 3 * j + 2⟩
def marks (a : Int) (n : Nat) : List C2 := (List.range' 0 n).map (mkC a)
theorem marks_len (a : Int) (n : Nat) : (marks a n).length = n := by simp [marks]
theorem marks_get (a : Int) (n i : Nat) (h : i < (marks a n).length) : (marks a n)[i] = mkC a i := by simp [marks]
theorem rd_set (m : List C2) (i : Nat) (u : C2) (h : i < m.length) : rd_T96 (m.set i u) (i : Int) = u := by
  rw [rd_at _ _ (by simpa using h)]; simp
theorem mark_loop (a : Int) (h0 : 0 ≤ a) (ha : a ≤ 1000000000) : ∀ (d i k : Nat) (m : List C2), m.length ≤ 1048577 → i + d = m.length → d < k →
    laws_markClueS.l0 k m (a + 3 * i) (i : Int) = some (a + 3 * m.length, m.take i ++ (List.range' i d).map (mkC a)) := by
  intro d
  induction d with
  | zero =>
    intro i k m hl hi hk
    obtain ⟨k, rfl⟩ : ∃ n, k = n + 1 := ⟨k - 1, by omega⟩
    simp only [laws_markClueS.l0]
    rw [if_neg (by omega)]
    have : i = m.length := by omega
    subst this
    simp
  | succ d ih =>
    intro i k m hl hi hk
    obtain ⟨k, rfl⟩ : ∃ n, k = n + 1 := ⟨k - 1, by omega⟩
    have hlt : i < m.length := by omega
    simp only [laws_markClueS.l0]
    rw [if_pos (by omega), if_pos (by omega)]
    simp only [Option.bind_some, Int.toNat_natCast]
    rw [rd_set m i _ hlt]
    simp only [List.set_set]
    rw [rd_set m i _ hlt]
    simp only []
    have e1 : wrap64 (a + 3 * (i : Int) + 1) = a + 3 * i + 1 := wrap_of (by omega) (by omega)
    have e2 : wrap64 (a + 3 * (i : Int) + 1 + 1) = a + 3 * i + 2 := by rw [wrap_of (by omega) (by omega)]; omega
    have e3 : wrap64 (a + 3 * (i : Int) + 2 + 1) = a + 3 * ((i + 1 : Nat) : Int) := by rw [wrap_of (by omega) (by omega)]; omega
    rw [e1, e2, e3, wrap_nat (by omega), ih (i + 1) k _ (by simpa using hl) (by simp; omega) (by omega)]
    have e4 : (m.set i (⟨a + 3 * i, a + 3 * i + 1, a + 3 * i + 2⟩ : C2)).take (i + 1) = m.take i ++ [mkC a i] := by
      rw [List.take_succ_eq_append_getElem (by simpa using hlt), List.take_set_of_le (Nat.le_refl _)]
      simp [mkC]
    rw [e4]
    simp [List.range'_succ]
theorem mark_ev (m : List C2) (hl : m.length ≤ 1048577) : Ev (fun k => laws_markPuzzle.f k m 1) (1 + 3 * (m.length : Int), marks 1 m.length) := by
  refine ev_from (m.length + 1) (fun k hk => ?_)
  unfold laws_markPuzzle.f laws_markClueS.f
  have := mark_loop 1 (by omega) (by omega) m.length 0 k m hl (by omega) (by omega)
  simp only [Int.natCast_zero, Int.mul_zero, Int.add_zero, List.take_zero, List.nil_append] at this
  have e : ((0 : Nat) : Int) = 0 := rfl
  try rw [e] at this
  try simp only [Int.mul_zero, Int.add_zero] at this
  rw [this]
  rfl
theorem held_loop (a : Int) (h0 : 0 ≤ a) (ha : a ≤ 1000000000) (n : Nat) (hn : n ≤ 1048577) : ∀ (d i k : Nat), i + d = n → d < k →
    laws_heldClueS.l0 k (marks a n) (a + 3 * i) (i : Int) = some (a + 3 * n) := by
  intro d
  induction d with
  | zero =>
    intro i k hi hk
    obtain ⟨k, rfl⟩ : ∃ n, k = n + 1 := ⟨k - 1, by omega⟩
    simp only [laws_heldClueS.l0]
    rw [if_neg (by rw [marks_len]; omega)]
    have : i = n := by omega
    rw [this]
  | succ d ih =>
    intro i k hi hk
    obtain ⟨k, rfl⟩ : ∃ n, k = n + 1 := ⟨k - 1, by omega⟩
    have hlt : i < (marks a n).length := by rw [marks_len]; omega
    have e1 : wrap64 (a + 3 * (i : Int) + 1) = a + 3 * i + 1 := wrap_of (by omega) (by omega)
    have e2 : wrap64 (a + 3 * (i : Int) + 1 + 1) = a + 3 * i + 2 := by rw [wrap_of (by omega) (by omega)]; omega
    have e3 : wrap64 (a + 3 * (i : Int) + 2 + 1) = a + 3 * ((i + 1 : Nat) : Int) := by rw [wrap_of (by omega) (by omega)]; omega
    simp only [laws_heldClueS.l0]
    rw [if_pos (by omega), if_pos (by omega), rd_at _ i hlt, marks_get a n i hlt, e1, e2, e3, wrap_nat (by omega)]
    rw [if_pos (show (mkC a i).f0 = a + 3 * (i : Int) from rfl), if_pos (show (mkC a i).f1 = a + 3 * (i : Int) + 1 from rfl), if_pos (show (mkC a i).f2 = a + 3 * (i : Int) + 2 from rfl)]
    exact ih (i + 1) k (by omega) (by omega)
theorem held_ev (n : Nat) (hn : n ≤ 1048577) : Ev (fun k => laws_heldPuzzle.f k (marks 1 n) 1) (1 + 3 * (n : Int)) := by
  refine ev_from (n + 1) (fun k hk => ?_)
  unfold laws_heldPuzzle.f laws_heldClueS.f
  have := held_loop 1 (by omega) (by omega) n hn n 0 k (by omega) (by omega)
  simp only [Int.natCast_zero, Int.mul_zero, Int.add_zero] at this
  have e : ((0 : Nat) : Int) = 0 := rfl
  try rw [e] at this
  try simp only [Int.mul_zero, Int.add_zero] at this
  rw [this]
  simp only [Option.bind_some]
  rw [if_neg (by omega)]

/-! ### a text cut at a byte -/
abbrev mkB (l : List UInt8) : ByteArray := ⟨l.toArray⟩
def sp (c : UInt8) : List UInt8 → List (List UInt8)
  | [] => [[]]
  | b :: l => if b = c then [] :: sp c l else match sp c l with
    | [] => [[b]]
    | h :: t => (b :: h) :: t
theorem sp_cons_eq (c : UInt8) (l : List UInt8) : sp c (c :: l) = [] :: sp c l := by rw [sp, if_pos rfl]
theorem sp_plain (c : UInt8) : ∀ w : List UInt8, c ∉ w → sp c w = [w]
  | [], _ => rfl
  | b :: w, h => by
    rw [sp, if_neg (show ¬ b = c from fun e => h (by rw [e]; exact List.mem_cons_self ..)), sp_plain c w (fun e => h (List.mem_cons_of_mem _ e))]
theorem sp_append (c : UInt8) (r : List UInt8) : ∀ w : List UInt8, c ∉ w → sp c (w ++ c :: r) = w :: sp c r
  | [], _ => sp_cons_eq c r
  | b :: w, h => by
    rw [List.cons_append, sp, if_neg (show ¬ b = c from fun e => h (by rw [e]; exact List.mem_cons_self ..)), sp_append c r w (fun e => h (List.mem_cons_of_mem _ e))]
theorem first_or (c : UInt8) (l : List UInt8) : c ∉ l ∨ ∃ w r, c ∉ w ∧ l = w ++ c :: r := by
  induction l with
  | nil => exact Or.inl (by simp)
  | cons b l ih =>
    by_cases e : b = c
    · subst e; exact Or.inr ⟨[], l, by simp, rfl⟩
    · rcases ih with h | ⟨w, r, h, rfl⟩
      · exact Or.inl (fun hm => (List.mem_cons.mp hm).elim (fun h1 => e h1.symm) (fun h1 => h h1))
      · exact Or.inr ⟨b :: w, r, fun hm => (List.mem_cons.mp hm).elim (fun h1 => e h1.symm) (fun h1 => h h1), rfl⟩
theorem sp_join (c : UInt8) : ∀ ws : List (List UInt8), ws ≠ [] → (∀ w ∈ ws, c ∉ w) → sp c (Lib.join ws [c]) = ws
  | [], h, _ => absurd rfl h
  | [w], _, h => by rw [Lib.join_one]; exact sp_plain c w (h w (by simp))
  | w :: x :: r, _, h => by
    have e : Lib.join (w :: x :: r) [c] = w ++ c :: Lib.join (x :: r) [c] := by
      rw [Lib.join_cons, Lib.join_cons, Lib.joinTail, Lib.joinTail]; simp
    rw [e, sp_append c _ w (h w (by simp)), sp_join c (x :: r) (by simp) (fun y hy => h y (List.mem_cons_of_mem _ hy))]
theorem index_none (c : UInt8) : ∀ l : List UInt8, c ∉ l → Lib.index l [c] = -1
  | [], _ => rfl
  | b :: l, h => by
    have hb : ¬ ([c].isPrefixOf (b :: l)) = true := by
      intro e; simp [List.isPrefixOf] at e; exact h (by rw [e]; exact List.mem_cons_self ..)
    rw [Lib.index, if_neg hb, index_none c l (fun e => h (List.mem_cons_of_mem _ e))]; rfl
theorem index_first (c : UInt8) (r : List UInt8) : ∀ w : List UInt8, c ∉ w → Lib.index (w ++ c :: r) [c] = (w.length : Int)
  | [], _ => by simp [Lib.index, List.isPrefixOf]
  | b :: w, h => by
    have hb : ¬ ([c].isPrefixOf (b :: (w ++ c :: r))) = true := by
      intro e; simp [List.isPrefixOf] at e; exact h (by rw [e]; exact List.mem_cons_self ..)
    rw [List.cons_append, Lib.index, if_neg hb, index_first c r w (fun e => h (List.mem_cons_of_mem _ e)), if_neg (by simp; try omega), List.length_cons]; omega
theorem splitK_sp (c : UInt8) : ∀ (n : Nat) (l : List UInt8), l.length ≤ n → Lib.splitK [c] 0 (Lib.count l [c]) l = sp c l := by
  intro n
  induction n with
  | zero =>
    intro l hl
    obtain rfl : l = [] := List.length_eq_zero_iff.mp (by omega)
    rw [Lib.count_miss (index_none c [] (by simp))]; rfl
  | succ n ih =>
    intro l hl
    rcases first_or c l with h | ⟨w, r, h, rfl⟩
    · rw [Lib.count_miss (index_none c l h), sp_plain c l h]; rfl
    · rw [Lib.count_hit (by simp) (index_first c r w h), sp_append c r w h, Nat.add_comm 1, Lib.splitK, index_first c r w h, if_neg (by simp; try omega)]
      have e1 : (w ++ c :: r).take ((w.length : Int).toNat + 0) = w := by simp
      have e2 : (w ++ c :: r).drop ((w.length : Int).toNat + [c].length) = r := by simp
      have e3 : (w ++ c :: r).drop (w.length + [c].length) = r := by simp
      rw [e1, e2, e3, ih r (by simp at hl; omega)]
theorem splitB_sp (c : UInt8) (s : ByteArray) : Lib.splitB (mkB [c]) 0 (Lib.countB s (mkB [c])) s = (sp c s.data.toList).map mkB := by
  have h := Lib.splitB_data (mkB [c]) 0 (Lib.countB s (mkB [c])) s
  have e : (mkB [c]).data.toList = [c] := by simp
  have e2 : Lib.countB s (mkB [c]) = Lib.count s.data.toList [c] := rfl
  rw [e, e2, splitK_sp c _ _ (Nat.le_refl _)] at h
  rw [← h, e2, List.map_map]
  conv => lhs; rw [← List.map_id (Lib.splitB _ _ _ _)]
  exact List.map_congr_left (fun x _ => by simp [Function.comp, mkB])
theorem sp_sizes (c : UInt8) : ∀ (l : List UInt8), (sp c l).length ≤ l.length + 1 ∧ 1 ≤ (sp c l).length ∧ ∀ w ∈ sp c l, w.length ≤ l.length := by
  intro l
  induction l with
  | nil => simp [sp]
  | cons b l ih =>
    rw [sp]
    by_cases e : b = c
    · rw [if_pos e]
      refine ⟨by simp; omega, by simp, fun w hw => ?_⟩
      rcases List.mem_cons.mp hw with rfl | hw
      · simp
      · have := ih.2.2 w hw; simp; omega
    · rw [if_neg e]
      cases hs : sp c l with
      | nil => rw [hs] at ih; simp at ih
      | cons h t =>
        rw [hs] at ih
        refine ⟨by have := ih.1; simp at this ⊢; omega, by simp, fun w hw => ?_⟩
        rcases List.mem_cons.mp hw with rfl | hw
        · have := ih.2.2 h (by simp); simp; omega
        · have := ih.2.2 w (by simp [hw]); simp; omega
theorem split_eq (c : UInt8) (s : ByteArray) (hs : s.size ≤ 1048576) : strings_Split.f s (mkB [c]) = some ((sp c s.data.toList).map mkB) := by
  unfold strings_Split.f
  rw [if_pos (by omega), if_pos (by rw [mk_size]; exact Nat.le_refl _), splitB_sp]
theorem l1Split_loop (s : ByteArray) (c : UInt8) (hs : s.size ≤ 1048576) : ∀ (d i j : Nat) (out : List ByteArray), i + d = s.size → j ≤ i → out.length ≤ i → c ∉ (s.data.toList.take i).drop j → Ev (fun k => spec_l1Split.l0 k s (c.toNat : Int) out (j : Int) (i : Int)) (out ++ (sp c (s.data.toList.drop j)).map mkB) := by
  have hsz := size_len s
  intro d
  induction d with
  | zero =>
    intro i j out hi hj ho hc
    refine ev_succ ?_
    simp only [spec_l1Split.l0]
    refine ev_neg (by omega) (ev_pos (by omega) (ev_pos (by omega) (ev_pos (by omega) (ev_eq fun _ => ?_))))
    rw [List.take_of_length_le (by omega)] at hc
    rw [sp_plain c _ hc, Int.toNat_natCast, of_list (drop_list s j)]
    rfl
  | succ d ih =>
    intro i j out hi hj ho hc
    refine ev_succ ?_
    simp only [spec_l1Split.l0]
    have hlt : i < s.data.toList.length := by omega
    have hd : (s.data.toList.take (i + 1)).drop j = (s.data.toList.take i).drop j ++ [s.data.toList[i]] := by
      rw [List.take_succ_eq_append_getElem hlt, List.drop_append_of_le_length (by rw [List.length_take]; omega)]
    have hl : s.data.toList.drop j = (s.data.toList.take i).drop j ++ s.data.toList[i] :: s.data.toList.drop (i + 1) := by
      conv => lhs; rw [← List.take_append_drop i s.data.toList]
      rw [List.drop_append_of_le_length (by rw [List.length_take]; omega), List.drop_eq_getElem_cons hlt]
    rw [bt_get s i hlt, wrap_nat (by omega)]
    refine ev_pos (by omega) (ev_pos (by omega) ?_)
    by_cases e : s.data.toList[i] = c
    · refine ev_pos (by rw [e]) (ev_pos (by omega) (ev_pos (by omega) (ev_pos (by omega) (ev_pos (by omega) ?_))))
      have h := ih (i + 1) (i + 1) (out ++ [s.extract j i]) (by omega) (by omega) (by simp; omega) (by simp)
      rw [hl, e, sp_append c _ _ hc, List.map_cons]
      rw [Int.toNat_natCast, Int.toNat_natCast]
      have he : s.extract j i = mkB ((s.data.toList.take i).drop j) := of_list (ext_list s j i (by omega))
      rw [List.append_assoc, he] at h
      rw [he]
      exact h
    · refine ev_neg (fun h => e (UInt8.toNat_inj.mp (by omega))) ?_
      refine ih (i + 1) j out (by omega) (by omega) (by omega) ?_
      rw [hd]
      intro hm
      rcases List.mem_append.mp hm with h | h
      · exact hc h
      · exact e (List.mem_singleton.mp h).symm
theorem l1Split_ev (s : ByteArray) (c : UInt8) (hs : s.size ≤ 1048576) : Ev (fun k => spec_l1Split.f k s (c.toNat : Int)) ((sp c s.data.toList).map mkB) := by
  unfold spec_l1Split.f
  have h := l1Split_loop s c hs s.size 0 0 [] (by omega) (by omega) (by simp) (by simp)
  simpa using h

/-! ### a puzzle read out of its text -/
def dg (v : Nat) : List UInt8 := if v < 10 then [UInt8.ofNat (48 + v)] else [UInt8.ofNat (48 + v / 10), UInt8.ofNat (48 + v % 10)]
theorem dec_dg (v : Nat) (h : v < 100) : Lib.decDigits v = dg v := by
  unfold dg
  by_cases c : v < 10
  · rw [if_pos c, Lib.decDigits_one c]
  · rw [if_neg c, Lib.decDigits.eq_1 v, dif_neg c, Lib.decDigits_one (by omega)]; rfl
theorem chkV : (List.range 21).all (fun v => impl_number.val (mkB (dg v)) == some (v : Int)) = true := by kernel_rfl
theorem chkR : (List.range 21).all (fun v => spec_l1Read.f 8 (mkB (dg v)) == some (v : Int)) = true := by kernel_rfl
theorem chkC : (List.range 21).all (fun v => (dg v).all (fun b => b != 44 && b != 46)) = true := by kernel_rfl
theorem num_dec (v : Int) (h0 : 0 ≤ v) (h : v ≤ 20) : impl_number.f (mkB (Lib.decDigits v.toNat)) 20 = some (v, true) := by
  have hv := List.all_eq_true.mp chkV v.toNat (List.mem_range.mpr (by omega))
  have hv := eq_of_beq hv
  rw [← dec_dg _ (by omega), Int.toNat_of_nonneg h0] at hv
  have hl := nDig_le v.toNat 2 (by omega) (by omega)
  unfold impl_number.f
  rw [if_pos (by rw [mk_size, Lib.decDigits_length]; omega), hv]
  dsimp only
  rw [itoa_small v h0 (by omega), Option.bind_some, if_pos rfl, within_eq, Option.bind_some, if_pos (decide_eq_true ⟨h0, h⟩)]
theorem num_total (s : ByteArray) (hs : s.size ≤ 1048576) : ∃ r, impl_number.f s 20 = some r := by
  unfold impl_number.f
  rw [if_pos (by omega)]
  cases hv : impl_number.val s with
  | none => exact ⟨_, rfl⟩
  | some v =>
    have hb : -9223372036854775808 ≤ v ∧ v ≤ 9223372036854775807 := by
      unfold impl_number.val at hv
      rcases hc : Lib.atoiAll s.data.toList with u | _ | _
      · rw [hc] at hv; injection hv with hv; subst hv; exact Lib.atoiAll_bounds hc
      · rw [hc] at hv; cases hv
      · rw [hc] at hv; cases hv
    dsimp only
    unfold strconv_Itoa.f
    rw [if_pos hb.1, if_pos hb.2, Option.bind_some, within_eq, Option.bind_some]
    by_cases c : (⟨(Lib.itoa v).toArray⟩ : ByteArray).toList = s.toList
    · rw [if_pos c]
      by_cases c2 : decide (0 ≤ v ∧ v ≤ 20) = true
      · rw [if_pos c2]; exact ⟨_, rfl⟩
      · rw [if_neg c2]; exact ⟨_, rfl⟩
    · rw [if_neg c]; exact ⟨_, rfl⟩
theorem rds_at (l : List ByteArray) (i : Nat) (h : i < l.length) : rdOf ByteArray.empty l (i : Int) = l[i] := by
  unfold rdOf
  rw [Int.toNat_natCast, List.getD_eq_getElem?_getD, List.getElem?_eq_getElem h]; rfl
theorem arr_total (parts : List ByteArray) (hp : ∀ x ∈ parts, x.size ≤ 1048576) : ∀ (c i : Nat) (l : List Int), i + c ≤ parts.length → ∃ l', impl_ParsePuzzle.arr parts c i l = some l' := by
  intro c
  induction c with
  | zero => intro i l _; exact ⟨l, rfl⟩
  | succ c ih =>
    intro i l h
    rw [impl_ParsePuzzle.arr, rds_at parts i (by omega)]
    obtain ⟨r, hr⟩ := num_total parts[i] (hp _ (List.getElem_mem (by omega)))
    rw [hr, Option.bind_some]
    exact ih (i + 1) _ (by omega)
theorem arr3 (a b c : Int) (ha : 0 ≤ a ∧ a ≤ 20) (hb : 0 ≤ b ∧ b ≤ 20) (hc : 0 ≤ c ∧ c ≤ 20) : impl_ParsePuzzle.arr [mkB (Lib.decDigits a.toNat), mkB (Lib.decDigits b.toNat), mkB (Lib.decDigits c.toNat)] 3 0 [0, 0, 0] = some [a, b, c] := by
  rw [impl_ParsePuzzle.arr, rds_at _ 0 (by simp)]
  show (impl_number.f (mkB (Lib.decDigits a.toNat)) 20).bind _ = _
  rw [num_dec a ha.1 ha.2, Option.bind_some, impl_ParsePuzzle.arr, rds_at _ (0 + 1) (by simp)]
  show (impl_number.f (mkB (Lib.decDigits b.toNat)) 20).bind _ = _
  rw [num_dec b hb.1 hb.2, Option.bind_some, impl_ParsePuzzle.arr, rds_at _ (0 + 1 + 1) (by simp)]
  show (impl_number.f (mkB (Lib.decDigits c.toNat)) 20).bind _ = _
  rw [num_dec c hc.1 hc.2, Option.bind_some, impl_ParsePuzzle.arr]
  rfl
theorem dec_no (v : Int) (h0 : 0 ≤ v) (h : v ≤ 20) : (44 : UInt8) ∉ Lib.decDigits v.toNat ∧ (46 : UInt8) ∉ Lib.decDigits v.toNat := by
  have hv := List.all_eq_true.mp chkC v.toNat (List.mem_range.mpr (by omega))
  rw [← dec_dg _ (by omega), List.all_eq_true] at hv
  refine ⟨fun hm => ?_, fun hm => ?_⟩
  · have := hv _ hm; simp at this
  · have := hv _ hm; simp at this
theorem word_sp {x : C2} (h : clueS x = true) : sp 46 (word x) = [Lib.decDigits x.f0.toNat, Lib.decDigits x.f1.toNat, Lib.decDigits x.f2.toNat] ∧ (44 : UInt8) ∉ word x := by
  have hb := clue_bounds h
  have n0 := dec_no x.f0 hb.1 (by omega)
  have n1 := dec_no x.f1 hb.2.2.1 (by omega)
  have n2 := dec_no x.f2 hb.2.2.2.2.1 (by omega)
  have e : word x = Lib.decDigits x.f0.toNat ++ 46 :: (Lib.decDigits x.f1.toNat ++ 46 :: Lib.decDigits x.f2.toNat) := by
    unfold word; simp
  refine ⟨?_, ?_⟩
  · rw [e, sp_append 46 _ _ n0.2, sp_append 46 _ _ n1.2, sp_plain 46 _ n2.2]
  · rw [e]
    intro hm
    rcases List.mem_append.mp hm with h1 | h1
    · exact n0.1 h1
    · rcases List.mem_cons.mp h1 with h1 | h1
      · exact absurd h1 (by decide)
      · rcases List.mem_append.mp h1 with h1 | h1
        · exact n1.1 h1
        · rcases List.mem_cons.mp h1 with h1 | h1
          · exact absurd h1 (by decide)
          · exact n2.1 h1
theorem ptext_sp (p : List C2) (hp : ∀ x ∈ p, clueS x = true) (hn : p ≠ []) : sp 44 (ptext p) = p.map word := by
  unfold ptext
  refine sp_join 44 _ (by simpa using hn) (fun w hw => ?_)
  obtain ⟨x, hx, rfl⟩ := List.mem_map.mp hw
  exact (word_sp (hp x hx)).2
theorem go_total (words : List ByteArray) (hw : ∀ w ∈ words, w.size ≤ 1048576) : ∀ (c j : Nat) (out : List C2), j + c ≤ words.length → ∃ L, impl_ParsePuzzle.go words c j out = some L := by
  intro c
  induction c with
  | zero => intro j out _; exact ⟨out, rfl⟩
  | succ c ih =>
    intro j out h
    rw [impl_ParsePuzzle.go, rds_at words j (by omega)]
    have hs := hw words[j] (List.getElem_mem (by omega))
    have e := split_eq 46 words[j] hs
    rw [m46, show (⟨[46].toArray⟩ : ByteArray) = mkB [46] from rfl, e, Option.bind_some]
    have hz := sp_sizes 46 words[j].data.toList
    rw [size_len] at hz
    obtain ⟨l, hl⟩ := arr_total ((sp 46 words[j].data.toList).map mkB) (fun x hx => by
      obtain ⟨y, hy, rfl⟩ := List.mem_map.mp hx
      rw [mk_size]; have := hz.2.2 y hy; omega) (min ((sp 46 words[j].data.toList).map mkB).length 3) 0 [0, 0, 0] (by omega)
    rw [hl, Option.bind_some]
    exact ih (j + 1) _ (by omega)
theorem go_text (p : List C2) (hp : ∀ x ∈ p, clueS x = true) : ∀ (c j : Nat) (out : List C2), j + c = p.length → impl_ParsePuzzle.go (p.map fun x => mkB (word x)) c j out = some (out ++ p.drop j) := by
  intro c
  induction c with
  | zero => intro j out h; rw [impl_ParsePuzzle.go, List.drop_eq_nil_of_le (by omega), List.append_nil]
  | succ c ih =>
    intro j out h
    have hlt : j < p.length := by omega
    have hx := hp p[j] (List.getElem_mem hlt)
    have hb := clue_bounds hx
    have hwl := word_len hx
    rw [impl_ParsePuzzle.go, rds_at _ j (by simpa using hlt), List.getElem_map, m46, show (⟨[46].toArray⟩ : ByteArray) = mkB [46] from rfl, split_eq 46 _ (by rw [mk_size]; omega), Option.bind_some, list_of, (word_sp hx).1]
    have e3 : min (List.map mkB [Lib.decDigits p[j].f0.toNat, Lib.decDigits p[j].f1.toNat, Lib.decDigits p[j].f2.toNat]).length 3 = 3 := rfl
    rw [e3]
    show (impl_ParsePuzzle.arr [mkB (Lib.decDigits p[j].f0.toNat), mkB (Lib.decDigits p[j].f1.toNat), mkB (Lib.decDigits p[j].f2.toNat)] 3 0 [0, 0, 0]).bind _ = _
    rw [arr3 _ _ _ ⟨hb.1, by omega⟩ ⟨hb.2.2.1, by omega⟩ ⟨hb.2.2.2.2.1, by omega⟩, Option.bind_some, ih (j + 1) _ (by omega), List.drop_eq_getElem_cons hlt, List.append_assoc]
    rfl
theorem read_loop (s : ByteArray) (hs : s.size ≤ 1048576) : ∀ (d i : Nat) (n : Int), i + d = s.size → ∃ v, Ev (fun k => spec_l1Read.l0 k s n (i : Int)) v := by
  intro d
  induction d with
  | zero =>
    intro i n h
    refine ⟨n, ev_succ ?_⟩
    simp only [spec_l1Read.l0]
    exact ev_neg (by omega) (ev_eq fun _ => rfl)
  | succ d ih =>
    intro i n h
    by_cases c : bt s (i : Int) < 48
    · refine ⟨-1, ev_succ ?_⟩
      simp only [spec_l1Read.l0]
      exact ev_pos (by omega) (ev_pos (by omega) (ev_pos c (ev_eq fun _ => rfl)))
    by_cases c2 : bt s (i : Int) > 57
    · refine ⟨-1, ev_succ ?_⟩
      simp only [spec_l1Read.l0]
      exact ev_pos (by omega) (ev_pos (by omega) (ev_neg c (ev_pos c2 (ev_eq fun _ => rfl))))
    obtain ⟨v, hv⟩ := ih (i + 1) (wrap64 ((wrap64 (10 * n)) + (((bt s (i : Int)) - 48) % 256))) (by omega)
    refine ⟨v, ev_succ ?_⟩
    simp only [spec_l1Read.l0]
    rw [wrap_nat (by omega)]
    exact ev_pos (by omega) (ev_pos (by omega) (ev_neg c (ev_neg c2 hv)))
theorem readj (s : ByteArray) (hs : s.size ≤ 1048576) (b : Bool) : ∃ v, Ev (fun k => spec_l1Read.j0 k s b) v := by
  cases b with
  | true => exact ⟨-1, ev_succ (by simp only [spec_l1Read.j0]; exact ev_pos trivial (ev_eq fun _ => rfl))⟩
  | false =>
    obtain ⟨v, hv⟩ := read_loop s hs s.size 0 0 (by omega)
    exact ⟨v, ev_succ (by simp only [spec_l1Read.j0]; exact ev_neg (by decide) hv)⟩
theorem read_total (s : ByteArray) (hs : s.size ≤ 1048576) : ∃ v, Ev (fun k => spec_l1Read.f k s) v := by
  unfold spec_l1Read.f
  by_cases h : (1 : Int) ≤ s.size ∧ (s.size : Int) ≤ 6
  · by_cases c : bt s 0 = 48
    · obtain ⟨v, hv⟩ := readj s hs (decide ((s.size : Int) > 1))
      exact ⟨v, ev_bind (l1In_eq _ _ _) (ev_pos (decide_eq_true h) (ev_pos (by omega) (ev_pos c hv)))⟩
    · obtain ⟨v, hv⟩ := readj s hs false
      exact ⟨v, ev_bind (l1In_eq _ _ _) (ev_pos (decide_eq_true h) (ev_pos (by omega) (ev_neg c hv)))⟩
  · obtain ⟨v, hv⟩ := readj s hs true
    exact ⟨v, ev_bind (l1In_eq _ _ _) (ev_neg (by rw [decide_eq_false h]; decide) hv)⟩
theorem read_dec (v : Int) (h0 : 0 ≤ v) (h : v ≤ 20) : Ev (fun k => spec_l1Read.f k (mkB (Lib.decDigits v.toNat))) v := by
  have hv := List.all_eq_true.mp chkR v.toNat (List.mem_range.mpr (by omega))
  have hv := eq_of_beq hv
  rw [← dec_dg _ (by omega), Int.toNat_of_nonneg h0] at hv
  exact ev_from 8 (fun k hk => mono_le (g := fun k => spec_l1Read.f k _) (fun k => spec_l1Read.mono _ k) hv hk)
theorem good_parts {l : List C2} (h : goodB l = true) : (∀ x ∈ l, clueS x = true) ∧ l.length ≤ 6 := by
  unfold goodB at h
  rw [Bool.and_eq_true, List.all_eq_true] at h
  exact ⟨h.2, of_decide_eq_true h.1⟩
theorem pl_any (s : ByteArray) (words : List ByteArray) (hw : ∀ w ∈ words, w.size ≤ 1048576) (hl : words.length ≤ 1048577) : ∀ (d i : Nat) (acc : List C2), i + d = words.length → acc.length ≤ i → ∃ r, Ev (fun k => spec_pzParse.l0 k s words (words.length : Int) (i : Int) acc) r ∧ (r.2 = true → goodB r.1 = true ∧ ptext r.1 = s.data.toList) := by
  intro d
  induction d with
  | zero =>
    intro i acc hi ha
    cases hg : goodB acc with
    | false =>
      refine ⟨(acc, false), ev_succ ?_, fun h => by cases h⟩
      simp only [spec_pzParse.l0]
      exact ev_neg (by omega) (Ev.bind (hg ▸ pzGood_ev acc) (ev_neg (by decide) (ev_eq fun _ => rfl)))
    | true =>
      have hp := good_parts hg
      refine ⟨(acc, (mkB (ptext acc)).toList == s.toList), ev_succ ?_, fun h => ⟨hg, ?_⟩⟩
      · simp only [spec_pzParse.l0]
        exact ev_neg (by omega) (Ev.bind (hg ▸ pzGood_ev acc) (ev_pos rfl (Ev.bind (pzText_ev acc hp.1 hp.2) (ev_eq fun _ => rfl))))
      · have h := eq_of_beq h
        rw [Lib.toList_data, Lib.toList_data, list_of] at h
        exact h
  | succ d ih =>
    intro i acc hi ha
    have hlt : i < words.length := by omega
    have hs := hw words[i] (List.getElem_mem hlt)
    have hsp := l1Split_ev words[i] 46 hs
    have hz := sp_sizes 46 words[i].data.toList
    rw [size_len] at hz
    have hsz : ∀ q (h : q < ((sp 46 words[i].data.toList).map mkB).length), (((sp 46 words[i].data.toList).map mkB)[q]).size ≤ 1048576 := by
      intro q h
      obtain ⟨y, hy, e⟩ := List.mem_map.mp (List.getElem_mem h)
      rw [← e, mk_size]; have := hz.2.2 y hy; omega
    generalize hP : (sp 46 words[i].data.toList).map mkB = P at hsp hsz
    by_cases h3 : P.length = 3
    · obtain ⟨v0, h0⟩ := read_total P[0] (hsz 0 (by omega))
      obtain ⟨v1, h1⟩ := read_total P[1] (hsz 1 (by omega))
      obtain ⟨v2, h2⟩ := read_total P[2] (hsz 2 (by omega))
      obtain ⟨r, hr, hq⟩ := ih (i + 1) (acc ++ [(⟨v0, v1, v2⟩ : C2)]) (by omega) (by simp; omega)
      refine ⟨r, ev_succ ?_, hq⟩
      simp only [spec_pzParse.l0]
      rw [rds_at words i hlt, wrap_nat (by omega)]
      refine ev_pos (by omega) (ev_pos (by omega) (ev_pos (by omega) (Ev.bind hsp (ev_pos (by omega) (ev_pos (by omega) ?_)))))
      rw [show rdOf ByteArray.empty P 0 = P[0] from rds_at P 0 (by omega), show rdOf ByteArray.empty P 1 = P[1] from rds_at P 1 (by omega), show rdOf ByteArray.empty P 2 = P[2] from rds_at P 2 (by omega)]
      exact Ev.bind h0 (ev_pos (by omega) (Ev.bind h1 (ev_pos (by omega) (Ev.bind h2 (ev_pos (by omega) hr)))))
    · refine ⟨(acc, false), ev_succ ?_, fun h => by cases h⟩
      simp only [spec_pzParse.l0]
      rw [rds_at words i hlt]
      exact ev_pos (by omega) (ev_pos (by omega) (ev_pos (by omega) (Ev.bind hsp (ev_neg (by omega) (ev_eq fun _ => rfl)))))
theorem pl_text (p : List C2) (hg : goodB p = true) : ∀ (d i : Nat), i + d = p.length → Ev (fun k => spec_pzParse.l0 k (mkB (ptext p)) (p.map fun x => mkB (word x)) (p.length : Int) (i : Int) (p.take i)) (p, true) := by
  have hp := good_parts hg
  intro d
  induction d with
  | zero =>
    intro i hi
    refine ev_succ ?_
    simp only [spec_pzParse.l0]
    rw [List.take_of_length_le (by omega)]
    exact ev_neg (by omega) (Ev.bind (hg ▸ pzGood_ev p) (ev_pos rfl (Ev.bind (pzText_ev p hp.1 hp.2) (ev_eq fun _ => by simp))))
  | succ d ih =>
    intro i hi
    have hlt : i < p.length := by omega
    have hx := hp.1 p[i] (List.getElem_mem hlt)
    have hb := clue_bounds hx
    have hwl := word_len hx
    have hsp := l1Split_ev (mkB (word p[i])) 46 (by rw [mk_size]; omega)
    rw [list_of, (word_sp hx).1] at hsp
    have ihh := ih (i + 1) (by omega)
    rw [List.take_succ_eq_append_getElem hlt] at ihh
    refine ev_succ ?_
    simp only [spec_pzParse.l0]
    rw [rds_at _ i (by simpa using hlt), List.getElem_map, wrap_nat (by omega)]
    refine ev_pos (by omega) (ev_pos (by omega) (ev_pos (by rw [List.length_map]; omega) (Ev.bind hsp (ev_pos (by simp) (ev_pos (by simp) ?_)))))
    refine Ev.bind (read_dec p[i].f0 hb.1 (by omega)) (ev_pos (by simp) (Ev.bind (read_dec p[i].f1 hb.2.2.1 (by omega)) (ev_pos (by simp) (Ev.bind (read_dec p[i].f2 hb.2.2.2.2.1 (by omega)) (ev_pos (by rw [List.length_take]; omega) ?_)))))
    exact ihh
theorem ptext_ne {p : List C2} {s : ByteArray} (h : ptext p = s.data.toList) (hs : ¬ s.toList = []) : p ≠ [] := by
  rintro rfl
  rw [Lib.toList_data] at hs
  exact hs h.symm
theorem parse_both (s : ByteArray) (hs : s.size ≤ 1048576) : ∃ r : List C2 × Bool, r.1.length ≤ 6 ∧ Ev (fun k => spec_ParsePuzzle.f k s) r ∧ Ev (fun k => impl_ParsePuzzle.f k s) r := by
  by_cases e : s.toList = []
  · have h0 : s.size = 0 := by rw [Lib.toList_data] at e; rw [← size_len, e]; rfl
    refine ⟨([], true), by simp, ?_, ?_⟩
    · unfold spec_ParsePuzzle.f spec_pzParse.f
      exact Ev.bind (a := (([] : List C2), true)) (ev_neg (by omega) (ev_pos e (ev_eq fun _ => rfl))) (ev_pos rfl (ev_eq fun _ => rfl))
    · unfold impl_ParsePuzzle.f
      exact ev_pos e (ev_eq fun _ => rfl)
  have hz := sp_sizes 44 s.data.toList
  rw [size_len] at hz
  have hw : ∀ w ∈ (sp 44 s.data.toList).map mkB, w.size ≤ 1048576 := fun w hm => by
    obtain ⟨y, hy, rfl⟩ := List.mem_map.mp hm
    rw [mk_size]; have := hz.2.2 y hy; omega
  have hwn : ((sp 44 s.data.toList).map mkB).length ≤ 1048577 := by rw [List.length_map]; omega
  obtain ⟨L, hgo⟩ := go_total _ hw ((sp 44 s.data.toList).map mkB).length 0 [] (by omega)
  have hsplit : strings_Split.f s (⟨#[44]⟩ : ByteArray) = some ((sp 44 s.data.toList).map mkB) := split_eq 44 s hs
  have hl1 : Ev (fun k => spec_l1Split.f k s 44) ((sp 44 s.data.toList).map mkB) := l1Split_ev s 44 hs
  have key : ∀ p : List C2, goodB p = true → ptext p = s.data.toList → (sp 44 s.data.toList).map mkB = p.map fun x => mkB (word x) := fun p hg ht => by
    rw [← ht, ptext_sp p (good_parts hg).1 (ptext_ne ht e), List.map_map]; rfl
  by_cases g : goodB L = true ∧ ptext L = s.data.toList
  · obtain ⟨hg, ht⟩ := g
    have hp := good_parts hg
    have hlen := ptext_len L hp.1
    have hse : s = mkB (ptext L) := of_list ht.symm
    have hs60 : s.size ≤ 60 := by rw [hse, mk_size]; omega
    refine ⟨(L, true), hp.2, ?_, ?_⟩
    · unfold spec_ParsePuzzle.f spec_pzParse.f
      refine Ev.bind (a := (L, true)) (ev_neg (by omega) (ev_neg e (Ev.bind hl1 ?_))) (ev_pos rfl (ev_eq fun _ => rfl))
      have h := pl_text L hg L.length 0 (by omega)
      rw [key L hg ht, List.length_map]
      rw [← hse] at h
      exact h
    · unfold impl_ParsePuzzle.f
      refine ev_neg e (ev_bind hsplit (ev_pos (by omega) (ev_bind hgo (Ev.bind (hg ▸ isPuzzle_ev L) (ev_pos rfl (Ev.bind (puzzleText_ev L hp.1 hp.2) (ev_pos ?_ (ev_eq fun _ => rfl))))))))
      rw [Lib.toList_data, Lib.toList_data, list_of]
      exact ht
  · refine ⟨([], false), by simp, ?_, ?_⟩
    · unfold spec_ParsePuzzle.f spec_pzParse.f
      by_cases c : (s.size : Int) > 60
      · exact Ev.bind (a := (([] : List C2), false)) (ev_pos c (ev_eq fun _ => rfl)) (ev_neg (by decide) (ev_eq fun _ => rfl))
      obtain ⟨⟨r1, r2⟩, hr, hq⟩ := pl_any s _ hw hwn ((sp 44 s.data.toList).map mkB).length 0 [] (by omega) (by simp)
      cases r2 with
      | false => exact Ev.bind (ev_neg c (ev_neg e (Ev.bind hl1 hr))) (ev_neg (fun h => by cases h) (ev_eq fun _ => rfl))
      | true =>
        exfalso
        obtain ⟨h1, h2⟩ := hq rfl
        have hk := key r1 h1 h2
        have ht := go_text r1 (good_parts h1).1 r1.length 0 [] (by omega)
        rw [hk, List.length_map, ht] at hgo
        have e2 : r1 = L := by simpa using hgo
        exact g (e2 ▸ ⟨h1, h2⟩)
    · unfold impl_ParsePuzzle.f
      refine ev_neg e (ev_bind hsplit (ev_pos (by omega) (ev_bind hgo ?_)))
      cases hg : goodB L with
      | false => exact Ev.bind (hg ▸ isPuzzle_ev L) (ev_neg (by decide) (ev_eq fun _ => rfl))
      | true =>
        have hp := good_parts hg
        refine Ev.bind (hg ▸ isPuzzle_ev L) (ev_pos rfl (Ev.bind (puzzleText_ev L hp.1 hp.2) (ev_neg ?_ (ev_eq fun _ => rfl))))
        rw [Lib.toList_data, Lib.toList_data, list_of]
        exact fun ht => g ⟨hg, ht⟩

theorem FnExactParsePuzzle : laws_FnExactParsePuzzle.Pure := by
  intro s hs
  refine Ev.rounds ?_
  unfold laws_FnExactParsePuzzle.f
  by_cases h : (s.size : Int) > 1048576
  · exact ev_pos h (ev_eq fun _ => rfl)
  refine ev_neg h ?_
  obtain ⟨r, hl, h1, h2⟩ := parse_both s (by omega)
  refine Ev.bind h1 (Ev.bind h2 (Ev.bind (eqPuzzle_ev _ (by omega)) (ev_pos rfl (ev_neg (by simp) ?_))))
  refine Ev.bind (mark_ev _ (by omega)) (Ev.bind (held_ev _ (by omega)) (ev_neg (by omega) (ev_pos rfl ?_)))
  refine Ev.bind h2 (Ev.bind (eqPuzzle_ev _ (by omega)) (ev_pos rfl (ev_neg (by simp) ?_)))
  exact Ev.bind (held_ev _ (by omega)) (ev_neg (by omega) (ev_pos rfl (ev_eq fun _ => rfl)))

end Go.Proofs.YtjhmocngcnnfdaaDoor.Pure

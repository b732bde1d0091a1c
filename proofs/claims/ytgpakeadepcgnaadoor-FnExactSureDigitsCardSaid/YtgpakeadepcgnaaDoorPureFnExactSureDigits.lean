/- SureDigits: program and reference tell the same of every puzzle (lists and numbers alone). -/
import Derived.Test.YtgpakeadepcgnaaDoorPFnExactSureDigitsx8
namespace Go.Proofs.YtgpakeadepcgnaaDoor.Pure
open Go.RowKit Go.Proofs.YtgpakeadepcgnaaDoor.PFnExactSureDigits Go.Proofs.YtgpakeadepcgnaaDoorW.PrintWords Go.Proofs.YtgpakeadepcgnaaDoorW.PrintLast

theorem wrap_of {x : Int} (h0 : -9223372036854775808 ≤ x) (h1 : x ≤ 9223372036854775807) : wrap64 x = x := by unfold wrap64; omega
theorem wrap_nat {i : Nat} (h : i < 4611686018427387904) : wrap64 ((i : Int) + 1) = ((i + 1 : Nat) : Int) := by unfold wrap64; omega
theorem ev_eq {α : Type} {g : Nat → Option α} {r : α} (h : ∀ k, g k = some r) : Ev g r := ⟨0, fun k _ => h k⟩
theorem ev_bind {α β : Type} {x : Option α} {f : Nat → α → Option β} {a : α} {r : β} (h : x = some a) (k : Ev (fun n => f n a) r) : Ev (fun n => x.bind (f n)) r := by subst h; exact k
theorem ev_pos {α : Type} {c : Prop} [Decidable c] {g f : Nat → Option α} {r : α} (h : c) (k : Ev g r) : Ev (fun n => if c then g n else f n) r := by simp only [if_pos h]; exact k
theorem ev_neg {α : Type} {c : Prop} [Decidable c] {g f : Nat → Option α} {r : α} (h : ¬ c) (k : Ev f r) : Ev (fun n => if c then g n else f n) r := by simp only [if_neg h]; exact k
theorem ev_from {α : Type} {g : Nat → Option α} {r : α} (K : Nat) (h : ∀ k, K ≤ k → g k = some r) : Ev g r := ⟨K, h⟩

/-! ### clues -/
def clueB (k a b : Int) : Bool :=
  decide (0 ≤ b ∧ b ≤ 20 ∧ ((k = 0 ∧ 0 ≤ a ∧ a ≤ 1) ∨ (k = 1 ∧ 0 ≤ a ∧ a ≤ 3) ∨ (k = 2 ∧ a = 0 ∧ b < 2) ∨ (k = 3 ∧ 0 ≤ a ∧ a ≤ 2 ∧ b < 2) ∨ (k = 4 ∧ a = 0) ∨ (k = 5 ∧ a = 0 ∧ 2 ≤ b ∧ b ≤ 9)))
theorem l1In_eq (n lo hi : Int) : spec_l1In.f n lo hi = some (decide (lo ≤ n ∧ n ≤ hi)) := by
  unfold spec_l1In.f
  by_cases h : n ≥ lo
  · rw [if_pos h]; congr 1; simp; intro _; omega
  · rw [if_neg h]; congr 1; simp; intro; omega
theorem within_eq (n lo hi : Int) : impl_within.f n lo hi = some (decide (lo ≤ n ∧ n ≤ hi)) := by
  unfold impl_within.f
  by_cases h : lo ≤ n
  · rw [if_pos h]; congr 1; simp; intro _; omega
  · rw [if_neg h]; congr 1; simp; intro; omega
theorem specClue_eq (k a b : Int) : spec_pzClue.f k a b = some (clueB k a b) := by
  unfold spec_pzClue.f clueB
  simp only [l1In_eq, Option.bind_some]
  by_cases hb : 0 ≤ b ∧ b ≤ 20
  · rw [if_pos (by simpa using hb)]
    by_cases h0 : k = 0
    · subst h0; simp [hb]
    rw [if_neg h0]
    by_cases h1 : k = 1
    · subst h1; simp [hb]
    rw [if_neg h1]
    by_cases h2 : k = 2
    · subst h2; by_cases ha : a = 0 <;> simp [hb, ha]
    rw [if_neg h2]
    by_cases h3 : k = 3
    · subst h3; by_cases ha : 0 ≤ a ∧ a ≤ 2
      · simp [hb, ha]
      · have : ¬ (0 ≤ a ∧ a ≤ 2 ∧ b < 2) := fun h => ha ⟨h.1, h.2.1⟩
        simp [hb, ha, this]
    rw [if_neg h3]
    by_cases h4 : k = 4
    · subst h4; by_cases ha : a = 0 <;> simp [hb, ha]
    rw [if_neg h4]
    by_cases h5 : k = 5
    · subst h5; by_cases ha : a = 0 <;> simp [hb, ha]
    · rw [if_neg h5]; simp [hb, h0, h1, h2, h3, h4, h5]
  · rw [if_neg (by simpa using hb)]
    congr 1
    symm
    apply decide_eq_false
    rintro ⟨x, y, _⟩
    exact hb ⟨x, y⟩
theorem implClue_eq (n : Nat) (k a b : Int) : impl_IsClue.f (n + 1) k a b = some (clueB k a b) := by
  unfold impl_IsClue.f clueB
  simp only [within_eq, Option.bind_some]
  by_cases hk : 0 ≤ k ∧ k ≤ 5
  · rw [if_pos (by simpa using hk), if_pos hk.1, if_pos (by simp; omega)]
    have : k = 0 ∨ k = 1 ∨ k = 2 ∨ k = 3 ∨ k = 4 ∨ k = 5 := by omega
    rcases this with rfl | rfl | rfl | rfl | rfl | rfl
    all_goals
      by_cases ha : 0 ≤ a
      all_goals by_cases hb : 0 ≤ b
      all_goals simp [impl_IsClue.j0, within_eq, rd, ha, hb]
      all_goals try split
      all_goals try (simp; omega)
      all_goals try omega
      all_goals (congr 1; rw [Bool.eq_iff_iff]; simp; omega)
  · rw [if_neg (by simpa using hk)]
    congr 1
    symm
    apply decide_eq_false
    omega
theorem implClue_ev (k a b : Int) : Ev (fun n => impl_IsClue.f n k a b) (clueB k a b) := ⟨1, fun n hn => by obtain ⟨m, rfl⟩ : ∃ m, n = m + 1 := ⟨n - 1, by omega⟩; exact implClue_eq m k a b⟩

/-! ### puzzles -/
abbrev C1 := S23
abbrev C2 := S26
def conv (x : C1) : C2 := ⟨x.f0, x.f1, x.f2⟩
def clueS (x : C2) : Bool := clueB x.f0 x.f1 x.f2
def goodB (l : List C2) : Bool := decide (l.length ≤ 6) && l.all clueS
theorem rd_at (l : List C2) (i : Nat) (h : i < l.length) : rd_T26 l (i : Int) = l[i] := by
  unfold rd_T26
  rw [Int.toNat_natCast, List.getD_eq_getElem?_getD, List.getElem?_eq_getElem h]; rfl
theorem rd_at1 (l : List C1) (i : Nat) (h : i < l.length) : rd_T23 l (i : Int) = l[i] := by
  unfold rd_T23
  rw [Int.toNat_natCast, List.getD_eq_getElem?_getD, List.getElem?_eq_getElem h]; rfl
theorem szPuzzle_eq (l : List C1) (a : Int) (h0 : 0 ≤ a) (ha : a ≤ 1048576) (hl : l.length ≤ maxLen) : laws_szPuzzle.f l a = some (if (l.length : Int) ≤ a then a - l.length else -1) := by
  unfold laws_szPuzzle.f laws_szClueS.f
  unfold maxLen at hl
  rw [wrap_of (by omega) (by omega)]
  by_cases h : (l.length : Int) ≤ a
  · rw [if_neg (by omega), if_pos h]; simp only [Option.bind_some]; rw [if_neg (by omega)]
  · rw [if_pos (by omega), if_neg h]; simp
theorem toClueS_loop (l : List C1) (hl : l.length ≤ 1048576) : ∀ (d i k : Nat) (m : List C2), i + d = l.length → d < k → m.length = l.length → m.take i = (l.take i).map conv →
    laws_toClueS.l0 k l m (i : Int) = some (l.map conv) := by
  intro d
  induction d with
  | zero =>
    intro i k m hi hk hm ht
    obtain ⟨k, rfl⟩ : ∃ n, k = n + 1 := ⟨k - 1, by omega⟩
    simp only [laws_toClueS.l0]
    rw [if_neg (by omega)]
    have : i = l.length := by omega
    subst this
    rw [List.take_of_length_le (by omega), List.take_of_length_le (by omega)] at ht
    rw [ht]
  | succ d ih =>
    intro i k m hi hk hm ht
    obtain ⟨k, rfl⟩ : ∃ n, k = n + 1 := ⟨k - 1, by omega⟩
    have hlt : i < l.length := by omega
    simp only [laws_toClueS.l0]
    rw [if_pos (by omega), if_pos (by omega), rd_at1 l i hlt]
    simp only [laws_toClue.f, Option.bind_some]
    rw [if_pos (by omega), wrap_nat (by omega), Int.toNat_natCast]
    refine ih (i + 1) k _ (by omega) (by omega) (by simpa using hm) ?_
    rw [List.take_succ_eq_append_getElem (by simpa [hm] using hlt), List.take_set_of_le (Nat.le_refl _), ht, List.take_succ_eq_append_getElem hlt, List.map_append]
    congr 1
    simp [conv]
theorem toPuzzle_ev (l : List C1) (hl : l.length ≤ 1048576) : Ev (fun k => laws_toPuzzle.f k l) (l.map conv) := by
  refine ev_from (l.length + 1) (fun k hk => ?_)
  unfold laws_toPuzzle.f laws_toClueS.f
  rw [if_pos (by omega), if_pos (by simp; omega), Int.toNat_natCast, show (0 : Int) = ((0 : Nat) : Int) from rfl, toClueS_loop l hl l.length 0 k _ (by omega) (by omega) (by simp) (by simp)]
  rfl
theorem pzGood_loop (l : List C2) (hl : l.length ≤ 6) : ∀ (d i k : Nat), i + d = l.length → d < k → spec_pzGood.l0 k l (l.length : Int) (i : Int) = some ((l.drop i).all clueS) := by
  intro d
  induction d with
  | zero =>
    intro i k hi hk
    obtain ⟨k, rfl⟩ : ∃ n, k = n + 1 := ⟨k - 1, by omega⟩
    simp only [spec_pzGood.l0]
    rw [if_neg (by omega), List.drop_eq_nil_of_le (by omega)]; rfl
  | succ d ih =>
    intro i k hi hk
    obtain ⟨k, rfl⟩ : ∃ n, k = n + 1 := ⟨k - 1, by omega⟩
    have hlt : i < l.length := by omega
    simp only [spec_pzGood.l0]
    rw [if_pos (by omega), if_pos (by omega), if_pos (by omega), rd_at l i hlt, specClue_eq, Option.bind_some, List.drop_eq_getElem_cons hlt, List.all_cons]
    show (if clueS l[i] = true then _ else _) = _
    cases hc : clueS l[i] with
    | true => rw [if_pos rfl, wrap_nat (by omega), ih (i + 1) k (by omega) (by omega)]; simp
    | false => rw [if_neg (by decide)]; simp
theorem pzGood_ev (l : List C2) : Ev (fun k => spec_pzGood.f k l) (goodB l) := by
  unfold spec_pzGood.f goodB
  by_cases h : l.length ≤ 6
  · refine ev_from (l.length + 1) (fun k hk => ?_)
    rw [if_neg (by omega), show (0 : Int) = ((0 : Nat) : Int) from rfl, pzGood_loop l h l.length 0 k (by omega) (by omega)]
    simp [h]
  · refine ev_from (0) (fun k _ => ?_)
    rw [if_pos (by omega)]; simp [h]
theorem isPuzzle_ev (l : List C2) : Ev (fun k => impl_IsPuzzle.f k l) (goodB l) := by
  refine ev_from (1) (fun k hk => ?_)
  obtain ⟨k, rfl⟩ : ∃ m, k = m + 1 := ⟨k - 1, by omega⟩
  unfold impl_IsPuzzle.f goodB
  by_cases h : l.length ≤ 6
  · rw [if_pos (by omega), Fn.anyO_some (f := fun x => !clueS x) l (fun x _ => by show impl_IsPuzzle_1.f _ _ _ _ = _; unfold impl_IsPuzzle_1.f; rw [implClue_eq]; rfl)]
    simp [h, List.all_eq_not_any_not]
  · rw [if_neg (by omega)]; simp [h]
theorem eqClue_eq (x y : C2) : laws_eqClue.f x.f0 x.f1 x.f2 y.f0 y.f1 y.f2 = some (decide (x.f0 = y.f0 ∧ x.f1 = y.f1 ∧ x.f2 = y.f2)) := by
  unfold laws_eqClue.f
  by_cases h0 : x.f0 = y.f0 <;> by_cases h1 : x.f1 = y.f1 <;> by_cases h2 : x.f2 = y.f2 <;> simp [h0, h1, h2]
theorem eqClueS_loop (l : List C2) (hl : l.length ≤ 1048577) : ∀ (d i k : Nat), i + d = l.length → d < k → laws_eqClueS.l0 k l l (i : Int) = some true := by
  intro d
  induction d with
  | zero =>
    intro i k hi hk
    obtain ⟨k, rfl⟩ : ∃ n, k = n + 1 := ⟨k - 1, by omega⟩
    simp only [laws_eqClueS.l0]
    rw [if_neg (by omega)]
  | succ d ih =>
    intro i k hi hk
    obtain ⟨k, rfl⟩ : ∃ n, k = n + 1 := ⟨k - 1, by omega⟩
    have hlt : i < l.length := by omega
    simp only [laws_eqClueS.l0]
    rw [if_pos (by omega), if_pos (by omega), if_pos (by omega), eqClue_eq, Option.bind_some, if_pos (by simp), wrap_nat (by omega), ih (i + 1) k (by omega) (by omega)]
theorem eqPuzzle_ev (l : List C2) (hl : l.length ≤ 1048577) : Ev (fun k => laws_eqPuzzle.f k l l) true := by
  refine ev_from (l.length + 1) (fun k hk => ?_)
  unfold laws_eqPuzzle.f laws_eqClueS.f
  rw [if_pos rfl, show (0 : Int) = ((0 : Nat) : Int) from rfl, eqClueS_loop l hl l.length 0 k (by omega) (by omega)]
  rfl

/-! ### solutions -/
def dg (i : Nat) : ByteArray := impl_solutions.digit (i : Int)
def pre : Nat → Nat → ByteArray
  | 0, _ => ⟨#[]⟩
  | j + 1, p => pre j (p / 6) ++ dg (p % 6)
def tk (n : Nat) : ByteArray := pre 4 n
theorem ev_of {α : Type} {g : Nat → Option α} (hm : ∀ k, LeO (g k) (g (k + 1))) {K : Nat} {r : α} (h : g K = some r) : Ev g r := by
  refine ev_from K (fun k hk => ?_)
  induction k with
  | zero => obtain rfl : K = 0 := by omega
            exact h
  | succ k ih =>
    by_cases e : K = k + 1
    · subst e; exact h
    · exact hm k r (ih (by omega))
def chkV (k a : Int) (t : ByteArray) : Bool := match spec_pzValue.f 24 k a t, impl_told.f 24 k a t with
  | some x, some y => x == y
  | _, _ => false
def chkN (t : ByteArray) : Bool := match spec_tkNumber.f 24 t, impl_numberOf.f 24 t with
  | some x, some y => x == y
  | _, _ => false
def chk (t : ByteArray) : Bool := chkV 0 0 t && chkV 0 1 t && chkV 1 0 t && chkV 1 1 t && chkV 1 2 t && chkV 1 3 t && chkV 2 0 t && chkV 3 0 t && chkV 3 1 t && chkV 3 2 t && chkV 4 0 t && chkN t
def chkR (a : Nat) : Bool := (List.range 216).all (fun n => chk (tk (216 * a + n)))
set_option maxRecDepth 100000 in
theorem chk0 : chkR 0 = true := by kernel_rfl
set_option maxRecDepth 100000 in
theorem chk1 : chkR 1 = true := by kernel_rfl
set_option maxRecDepth 100000 in
theorem chk2 : chkR 2 = true := by kernel_rfl
set_option maxRecDepth 100000 in
theorem chk3 : chkR 3 = true := by kernel_rfl
set_option maxRecDepth 100000 in
theorem chk4 : chkR 4 = true := by kernel_rfl
set_option maxRecDepth 100000 in
theorem chk5 : chkR 5 = true := by kernel_rfl
theorem chk_all (n : Nat) (h : n < 1296) : chk (tk n) = true := by
  have hR : chkR (n / 216) = true := by
    have : n / 216 = 0 ∨ n / 216 = 1 ∨ n / 216 = 2 ∨ n / 216 = 3 ∨ n / 216 = 4 ∨ n / 216 = 5 := by omega
    rcases this with e | e | e | e | e | e <;> rw [e]
    · exact chk0
    · exact chk1
    · exact chk2
    · exact chk3
    · exact chk4
    · exact chk5
  have := List.all_eq_true.mp hR (n % 216) (List.mem_range.mpr (by omega))
  rwa [show 216 * (n / 216) + n % 216 = n by omega] at this
theorem chkV_of {k a : Int} {t : ByteArray} (h : chkV k a t = true) : ∃ v, spec_pzValue.f 24 k a t = some v ∧ impl_told.f 24 k a t = some v := by
  unfold chkV at h
  split at h
  · rename_i x y h1 h2
    exact ⟨x, h1, by rw [h2, eq_of_beq h]⟩
  · cases h
theorem chkN_of {t : ByteArray} (h : chkN t = true) : ∃ v, spec_tkNumber.f 24 t = some v ∧ impl_numberOf.f 24 t = some v := by
  unfold chkN at h
  split at h
  · rename_i x y h1 h2
    exact ⟨x, h1, by rw [h2, eq_of_beq h]⟩
  · cases h
theorem fits_both (x : C2) (hx : clueS x = true) (n : Nat) (hn : n < 1296) : ∃ v, spec_pzFits.f 24 x.f0 x.f1 x.f2 (tk n) = some v ∧ impl_Clue_fits.f 24 x.f0 x.f1 x.f2 (tk n) = some v := by
  have hc := chk_all n hn
  generalize tk n = t at hc
  unfold chk at hc
  simp only [Bool.and_eq_true] at hc
  obtain ⟨⟨⟨⟨⟨⟨⟨⟨⟨⟨⟨h00, h01⟩, h10⟩, h11⟩, h12⟩, h13⟩, h20⟩, h30⟩, h31⟩, h32⟩, h40⟩, hN⟩ := hc
  obtain ⟨k, a, b⟩ := x
  have hx' := of_decide_eq_true (show decide _ = true from hx)
  dsimp only at hx'
  obtain ⟨hb0, hb1, hx'⟩ := hx'
  show ∃ v, spec_pzFits.f 24 k a b t = some v ∧ impl_Clue_fits.f 24 k a b t = some v
  unfold spec_pzFits.f impl_Clue_fits.f
  by_cases h5 : k = 5
  · have hb : b ≠ 0 := by
      rcases hx' with h | h | h | h | h | h <;> omega
    obtain ⟨v, h1, h2⟩ := chkN_of hN
    rw [if_pos h5, if_pos h5, h1, h2]
    simp only [Option.bind_some, if_neg hb]
    exact ⟨_, rfl, rfl⟩
  · have hV : chkV k a t = true := by
      rcases hx' with ⟨rfl, h1, h2⟩ | ⟨rfl, h1, h2⟩ | ⟨rfl, rfl, _⟩ | ⟨rfl, h1, h2, _⟩ | ⟨rfl, rfl⟩ | ⟨h, _⟩
      · have : a = 0 ∨ a = 1 := by omega
        rcases this with rfl | rfl <;> assumption
      · have : a = 0 ∨ a = 1 ∨ a = 2 ∨ a = 3 := by omega
        rcases this with rfl | rfl | rfl | rfl <;> assumption
      · assumption
      · have : a = 0 ∨ a = 1 ∨ a = 2 := by omega
        rcases this with rfl | rfl | rfl <;> assumption
      · assumption
      · exact absurd h h5
    obtain ⟨v, h1, h2⟩ := chkV_of hV
    rw [if_neg h5, if_neg h5, h1, h2]
    exact ⟨_, rfl, rfl⟩
def fitB (x : C2) (n : Nat) : Bool := (spec_pzFits.f 24 x.f0 x.f1 x.f2 (tk n)).getD false
theorem mono_le {α : Type} {g : Nat → Option α} (hm : ∀ k, LeO (g k) (g (k + 1))) {K k : Nat} {r : α} (h : g K = some r) (hk : K ≤ k) : g k = some r := by
  induction k with
  | zero => obtain rfl : K = 0 := by omega
            exact h
  | succ k ih =>
    by_cases e : K = k + 1
    · subst e; exact h
    · exact hm k r (ih (by omega))
theorem specFits_at (x : C2) (hx : clueS x = true) (n : Nat) (hn : n < 1296) (k : Nat) (hk : 24 ≤ k) : spec_pzFits.f k x.f0 x.f1 x.f2 (tk n) = some (fitB x n) := by
  obtain ⟨v, h1, _⟩ := fits_both x hx n hn
  refine mono_le (fun k => spec_pzFits.mono _ _ _ _ k) (K := 24) ?_ hk
  unfold fitB; rw [h1]; rfl
theorem implFits_at (x : C2) (hx : clueS x = true) (n : Nat) (hn : n < 1296) (k : Nat) (hk : 24 ≤ k) : impl_Clue_fits.f k x.f0 x.f1 x.f2 (tk n) = some (fitB x n) := by
  obtain ⟨v, h1, h2⟩ := fits_both x hx n hn
  refine mono_le (fun k => impl_Clue_fits.mono _ _ _ _ k) (K := 24) ?_ hk
  unfold fitB; rw [h1, h2]; rfl
def okT (l : List C2) (n : Nat) : Bool := l.all (fun x => fitB x n)
def sg (l : List C2) : Nat → Nat → List ByteArray → List ByteArray
  | 0, _, out => out
  | c + 1, n, out => sg l c (n + 1) (if okT l n then out ++ [tk n] else out)
def sol (l : List C2) : List ByteArray := sg l 1296 0 []
theorem sg_add (l : List C2) : ∀ (c1 c2 n : Nat) (out : List ByteArray), sg l (c1 + c2) n out = sg l c2 (n + c1) (sg l c1 n out)
  | 0, c2, n, out => by rw [Nat.zero_add]; rfl
  | c1 + 1, c2, n, out => by
    rw [show c1 + 1 + c2 = (c1 + c2) + 1 by omega]
    show sg l (c1 + c2) (n + 1) _ = sg l c2 (n + (c1 + 1)) (sg l c1 (n + 1) _)
    rw [sg_add l c1 c2 (n + 1), show n + 1 + c1 = n + (c1 + 1) by omega]
theorem sg_len (l : List C2) : ∀ (c n : Nat) (out : List ByteArray), out.length ≤ n → (sg l c n out).length ≤ n + c
  | 0, n, out, h => h
  | c + 1, n, out, h => by
    have hx : (if okT l n = true then out ++ [tk n] else out).length ≤ n + 1 := by
      split
      · rw [List.length_append]; exact Nat.succ_le_succ h
      · exact Nat.le_succ_of_le h
    have := sg_len l c (n + 1) _ hx
    show (sg l c (n + 1) _).length ≤ _
    omega
theorem tick_eq (n : Nat) : impl_solutions.tick 4 (n : Int) ByteArray.empty = tk n := by
  have e : ∀ m : Nat, impl_solutions.digit ((m : Int) % 6) = dg (m % 6) := fun m => by unfold dg; congr 1
  have q : ∀ m : Nat, (m : Int) / 6 = ((m / 6 : Nat) : Int) := fun m => by omega
  have z : (⟨#[]⟩ : ByteArray) = ByteArray.empty := rfl
  simp only [impl_solutions.tick, e, q, tk, pre, z, ByteArray.append_empty, ByteArray.empty_append, ByteArray.append_assoc]
theorem any_bad {l : List C2} {n : Nat} : (l.any fun x => !fitB x n) = !okT l n := by
  unfold okT; rw [List.all_eq_not_any_not]; simp
theorem go_eq (l : List C2) (hl : l.all clueS = true) (k : Nat) (hk : 24 ≤ k) : ∀ (c n : Nat) (out : List ByteArray), c + n = 1296 → impl_solutions.go k l c (n : Int) out = some (sg l c n out)
  | 0, n, out, _ => rfl
  | c + 1, n, out, h => by
    unfold impl_solutions.go
    rw [tick_eq, Fn.anyO_some (f := fun x => !fitB x n) l (fun x hx => by unfold impl_solutions.bad; rw [implFits_at x (List.all_eq_true.mp hl x hx) n (by omega) k hk]; rfl), Option.bind_some, any_bad]
    have := go_eq l hl k hk c (n + 1) (if okT l n then out ++ [tk n] else out) (by omega)
    rw [show ((n : Int) + 1) = ((n + 1 : Nat) : Int) by omega]
    cases ho : okT l n <;> rw [ho] at this <;> simpa [sg, ho] using this
theorem solutions_ev (l : List C2) (hl : l.all clueS = true) : Ev (fun k => impl_solutions.f k l) (sol l) :=
  ev_from 24 (fun k hk => go_eq l hl k hk 1296 0 [] rfl)
theorem leaf_eq (l : List C2) (hl : l.all clueS = true) (k : Nat) (hk : 24 ≤ k) (n : Nat) (hn : n < 1296) (out : List ByteArray) (ho : out.length ≤ n) : spec_pzLook.leaf k l (tk n) out = some (sg l 1 n out) := by
  unfold spec_pzLook.leaf
  rw [if_pos (by omega), Fn.anyO_some (f := fun x => !fitB x n) l (fun x hx => by unfold spec_pzLook.bad; rw [specFits_at x (List.all_eq_true.mp hl x hx) n hn k hk]; rfl), Option.bind_some, any_bad]
  cases h : okT l n <;> simp [sg, h]
theorem num_eq (k : Nat) (hk : 1 ≤ k) (i : Nat) (hi : i < 6) : spec_l1Num.f k (i : Int) = some (dg i) := by
  obtain ⟨k, rfl⟩ : ∃ m, k = m + 1 := ⟨k - 1, by omega⟩
  have : i = 0 ∨ i = 1 ∨ i = 2 ∨ i = 3 ∨ i = 4 ∨ i = 5 := by omega
  rw [spec_l1Num.f, if_pos (by omega)]
  refine congrArg some ?_
  rcases this with rfl | rfl | rfl | rfl | rfl | rfl <;> kernel_rfl
theorem pre_size : ∀ j p, (pre j p).size = j
  | 0, _ => rfl
  | j + 1, p => by rw [pre, ByteArray.size_append, pre_size j]; rfl
theorem look_eq (l : List C2) (hl : l.all clueS = true) (k : Nat) (hk : 24 ≤ k) : ∀ (d j p : Nat) (out : List ByteArray), j + d = 4 → p < 6 ^ j → out.length ≤ p * 6 ^ d → spec_pzLook.f k l d (pre j p) out = some (sg l (6 ^ d) (p * 6 ^ d) out) := by
  intro d
  induction d with
  | zero =>
    intro j p out hj hp ho
    obtain rfl : j = 4 := by omega
    rw [Nat.pow_zero, Nat.mul_one] at *
    exact leaf_eq l hl k hk p (by simpa using hp) out ho
  | succ d ih =>
    intro j p out hj hp ho
    have step : ∀ (c i : Nat) (o : List ByteArray), c + i = 6 → o.length ≤ (6 * p + i) * 6 ^ d → spec_pzLook.dig (spec_pzLook.f k l d) k (pre j p) c (i : Int) o = some (sg l (c * 6 ^ d) ((6 * p + i) * 6 ^ d) o) := by
      intro c
      induction c with
      | zero => intro i o _ _; rw [Nat.zero_mul]; rfl
      | succ c ihc =>
        intro i o hi hlen
        unfold spec_pzLook.dig
        rw [num_eq k (by omega) i (by omega), Option.bind_some, pre_size, if_pos (show j + (dg i).size ≤ 4 by show j + 1 ≤ 4; omega), if_pos (show (dg i).size = 1 from rfl)]
        have hp6 : pre j p ++ dg i = pre (j + 1) (6 * p + i) := by
          rw [pre, show (6 * p + i) / 6 = p by omega, show (6 * p + i) % 6 = i by omega]
        have hlt : 6 * p + i < 6 ^ (j + 1) := by rw [Nat.pow_succ]; omega
        rw [hp6, ih (j + 1) (6 * p + i) o (by omega) hlt hlen, Option.bind_some, show ((i : Int) + 1) = ((i + 1 : Nat) : Int) by omega]
        have hb := sg_len l (6 ^ d) ((6 * p + i) * 6 ^ d) o hlen
        have he : (6 * p + i) * 6 ^ d + 6 ^ d = (6 * p + (i + 1)) * 6 ^ d := by
          rw [← Nat.succ_mul]; congr 1
        rw [ihc (i + 1) _ (by omega) (by rw [← he]; exact hb), show (c + 1) * 6 ^ d = 6 ^ d + c * 6 ^ d by rw [Nat.succ_mul, Nat.add_comm], sg_add, he]
    have h6 : p * 6 ^ (d + 1) = (6 * p + 0) * 6 ^ d := by rw [Nat.pow_succ, Nat.add_zero, Nat.mul_comm (6 ^ d) 6, ← Nat.mul_assoc, Nat.mul_comm p 6]
    have := step 6 0 out rfl (by rw [← h6]; exact ho)
    rw [h6, Nat.pow_succ, Nat.mul_comm (6 ^ d) 6]
    exact this
theorem pzAll_ev (l : List C2) (hl : l.all clueS = true) : Ev (fun k => spec_pzAll.f k l) (sol l) := by
  refine ev_from 24 (fun k hk => ?_)
  have := look_eq l hl k hk 4 0 0 [] rfl (by decide) (by simp)
  exact this
attribute [irreducible] sol
theorem all_good {l : List C2} (h : goodB l = true) : l.all clueS = true := by unfold goodB at h; simp only [Bool.and_eq_true] at h; exact h.2
theorem pzGood_yes {l : List C2} (h : goodB l = true) : Ev (fun k => spec_pzGood.f k l) true := h ▸ pzGood_ev l
theorem pzGood_no {l : List C2} (h : goodB l = false) : Ev (fun k => spec_pzGood.f k l) false := h ▸ pzGood_ev l
theorem isPuzzle_yes {l : List C2} (h : goodB l = true) : Ev (fun k => impl_IsPuzzle.f k l) true := h ▸ isPuzzle_ev l
theorem isPuzzle_no {l : List C2} (h : goodB l = false) : Ev (fun k => impl_IsPuzzle.f k l) false := h ▸ isPuzzle_ev l
theorem Solutions_yes {l : List C2} (h : goodB l = true) : Ev (fun k => impl_Solutions.f k l) (sol l, true) := by
  unfold impl_Solutions.f
  exact Ev.bind (isPuzzle_yes h) (ev_pos rfl (Ev.bind (solutions_ev l (all_good h)) (ev_eq fun _ => rfl)))
theorem Solutions_no {l : List C2} (h : goodB l = false) : Ev (fun k => impl_Solutions.f k l) ([], false) := by
  unfold impl_Solutions.f
  exact Ev.bind (isPuzzle_no h) (ev_neg (by decide) (ev_eq fun _ => rfl))
theorem ev_succ {α : Type} {g : Nat → Option α} {r : α} (h : Ev (fun k => g (k + 1)) r) : Ev g r := by
  obtain ⟨K, hK⟩ := h
  refine ev_from (K + 1) (fun k hk => ?_)
  obtain ⟨k, rfl⟩ : ∃ m, k = m + 1 := ⟨k - 1, by omega⟩
  exact hK k (by omega)
theorem one_list (a : UInt8) : (⟨#[a]⟩ : ByteArray).toList = [a] := by
  unfold ByteArray.toList
  rw [ByteArray.toList.loop, if_pos (by show (0 : Nat) < 1; decide), ByteArray.toList.loop, if_neg (by show ¬ (1 : Nat) < 1; decide)]
  rfl
theorem four_of (t : ByteArray) (h : t.size = 4) : ∃ a b c d, t = ⟨#[a, b, c, d]⟩ := by
  obtain ⟨⟨l⟩⟩ := t
  have h : l.length = 4 := h
  match l, h with
  | [a, b, c, d], _ => exact ⟨a, b, c, d, rfl⟩
def U (t : ByteArray) (i : Nat) : UInt8 := t.data.getD i 0
theorem four_cases {i : Nat} (h : i < 4) : i = 0 ∨ i = 1 ∨ i = 2 ∨ i = 3 := by omega
theorem ex_U (t : ByteArray) (h : t.size = 4) (i : Nat) (hi : i < 4) : t.extract i (i + 1) = ⟨#[U t i]⟩ := by
  obtain ⟨a, b, c, d, rfl⟩ := four_of t h
  rcases four_cases hi with rfl | rfl | rfl | rfl <;> rfl
theorem bt_U (t : ByteArray) (h : t.size = 4) (i : Nat) (hi : i < 4) : bt t (i : Int) = ((U t i).toNat : Int) := by
  obtain ⟨a, b, c, d, rfl⟩ := four_of t h
  rcases four_cases hi with rfl | rfl | rfl | rfl <;> rfl
theorem bytes_U (t : ByteArray) (h : t.size = 4) : bytesOf t = [((U t 0).toNat : Int), ((U t 1).toNat : Int), ((U t 2).toNat : Int), ((U t 3).toNat : Int)] := by
  obtain ⟨a, b, c, d, rfl⟩ := four_of t h
  rfl
theorem bt_eq (t h : ByteArray) (ht : t.size = 4) (hh : h.size = 4) (i : Nat) (hi : i < 4) : (bt t (i : Int) = bt h (i : Int)) ↔ U t i = U h i := by
  rw [bt_U t ht i hi, bt_U h hh i hi]
  constructor
  · intro e
    exact UInt8.toNat_inj.mp (by omega)
  · intro e; rw [e]
def z (b : Bool) (x : Int) : Int := if b then x else 63
theorem z_z (a b : Bool) (x : Int) : z b (z a x) = z (a && b) x := by cases a <;> cases b <;> rfl
def same (h : ByteArray) (i : Nat) (t : ByteArray) : Bool := U t i == U h i
theorem row_eq (h t : ByteArray) (ht : t.size = 4) (hh : h.size = 4) (x0 x1 x2 x3 : Int) : impl_SureDigits.row h t 4 0 [x0, x1, x2, x3] = [z (same h 0 t) x0, z (same h 1 t) x1, z (same h 2 t) x2, z (same h 3 t) x3] := by
  have e : ∀ i, i < 4 → ∀ o, impl_SureDigits.cell h t i o = if same h i t then o else o.set i 63 := by
    intro i hi o
    unfold impl_SureDigits.cell same
    by_cases c : U t i = U h i
    · rw [if_pos ((bt_eq t h ht hh i hi).mpr c), if_pos (by simpa using c)]
    · rw [if_neg (fun x => c ((bt_eq t h ht hh i hi).mp x)), if_neg (by simpa using c)]
  simp only [impl_SureDigits.row]
  rw [e 0 (by omega), e (0 + 1) (by omega), e (0 + 1 + 1) (by omega), e (0 + 1 + 1 + 1) (by omega)]
  show (if same h 3 t then _ else _) = _
  cases same h 0 t <;> cases same h 1 t <;> cases same h 2 t <;> cases same h 3 t <;> rfl
theorem all_eq (h : ByteArray) (hh : h.size = 4) : ∀ (L : List ByteArray) (_ : ∀ t ∈ L, t.size = 4) (x0 x1 x2 x3 : Int), impl_SureDigits.all h L [x0, x1, x2, x3] = [z (L.all (same h 0)) x0, z (L.all (same h 1)) x1, z (L.all (same h 2)) x2, z (L.all (same h 3)) x3]
  | [], _, _, _, _, _ => rfl
  | t :: r, hL, x0, x1, x2, x3 => by
    unfold impl_SureDigits.all
    rw [row_eq h t (hL t List.mem_cons_self) hh, all_eq h hh r (fun y hy => hL y (List.mem_cons_of_mem _ hy))]
    simp only [z_z, List.all_cons]
def pd (h : ByteArray) (L : List ByteArray) (i : Nat) : UInt8 := if L.all (same h i) then U h i else 63
theorem z_pd (h : ByteArray) (L : List ByteArray) (i : Nat) : UInt8.ofNat (z (L.all (same h i)) ((U h i).toNat : Int)).toNat = pd h L i := by
  unfold z pd
  cases L.all (same h i) <;> simp
def four (h : ByteArray) (L : List ByteArray) : ByteArray := ⟨#[pd h L 0, pd h L 1, pd h L 2, pd h L 3]⟩
theorem impl_four (h : ByteArray) (L : List ByteArray) (hh : h.size = 4) (hL : ∀ t ∈ L, t.size = 4) : strOfNums (impl_SureDigits.all h L (bytesOf h)) = four h L := by
  rw [bytes_U h hh, all_eq h hh L hL]
  unfold strOfNums four
  simp only [List.map_cons, List.map_nil, z_pd]
theorem rds_at (l : List ByteArray) (i : Nat) (h : i < l.length) : rdOf ByteArray.empty l (i : Int) = l[i] := by
  unfold rdOf
  rw [Int.toNat_natCast, List.getD_eq_getElem?_getD, List.getElem?_eq_getElem h]; rfl
def tl (h : ByteArray) (L : List ByteArray) : Nat → Nat → ByteArray
  | 0, _ => ByteArray.empty
  | d + 1, i => (⟨#[pd h L i]⟩ : ByteArray) ++ tl h L d (i + 1)
theorem spec_l1 (h : ByteArray) (L : List ByteArray) (hL : ∀ t ∈ L, t.size = 4) (hn : L.length ≤ 1296) (i : Nat) (hi : i < 4) (out : ByteArray) (ho : out.size ≤ 4) (R : ByteArray × Bool) (HA : Ev (fun k => spec_SureDigits.l0 k L (out ++ (⟨#[pd h L i]⟩ : ByteArray)) ((i + 1 : Nat) : Int)) R) :
    ∀ (d j : Nat), j + d = L.length → (∀ t ∈ L.take j, U t i = U h i) → Ev (fun k => spec_SureDigits.l1 k L out (i : Int) (⟨#[U h i]⟩ : ByteArray) L (L.length : Int) (j : Int)) R := by
  intro d
  induction d with
  | zero =>
    intro j hj hs
    obtain rfl : j = L.length := by omega
    refine ev_succ ?_
    simp only [spec_SureDigits.l1]
    rw [wrap_nat (by omega)]
    have hp : pd h L i = U h i := by
      unfold pd
      rw [if_pos]
      refine List.all_eq_true.mpr fun t ht => ?_
      unfold same
      rw [List.take_length] at hs
      rw [hs t ht]; simp
    rw [hp] at HA
    exact ev_neg (by omega) (ev_pos (by show out.size + 1 ≤ 9223372036854775807; omega) HA)
  | succ d ih =>
    intro j hj hs
    have hlt : j < L.length := by omega
    refine ev_succ ?_
    simp only [spec_SureDigits.l1]
    rw [rds_at L j hlt, wrap_nat (i := i) (by omega), wrap_nat (i := j) (by omega)]
    have h4 := hL L[j] (List.getElem_mem hlt)
    refine ev_pos (by omega) (ev_pos (by omega) (ev_pos (by omega) (ev_pos (by omega) (ev_pos (by omega) (ev_pos (by omega) ?_)))))
    simp only [Int.toNat_natCast]
    have hx := ex_U L[j] h4 i hi
    by_cases c : U L[j] i = U h i
    · refine ev_pos (by rw [hx, c]) (ih (j + 1) (by omega) ?_)
      intro t ht
      rw [List.take_succ_eq_append_getElem hlt] at ht
      rcases List.mem_append.mp ht with ht | ht
      · exact hs t ht
      · rw [List.mem_singleton.mp ht]; exact c
    · refine ev_neg (fun e => c ?_) ?_
      · rw [hx, one_list, one_list] at e
        exact (List.cons.inj e).1
      · have hp : pd h L i = 63 := by
          unfold pd
          rw [if_neg]
          intro ha
          exact c (eq_of_beq (List.all_eq_true.mp ha L[j] (List.getElem_mem hlt)))
        rw [hp] at HA
        exact ev_pos (by omega) HA
theorem spec_l0 (h : ByteArray) (L : List ByteArray) (hL : ∀ t ∈ L, t.size = 4) (hn : L.length ≤ 1296) (hp : 0 < L.length) (hh : h = L[0]) : ∀ (d i : Nat) (out : ByteArray), i + d = 4 → out.size = i → Ev (fun k => spec_SureDigits.l0 k L out (i : Int)) (out ++ tl h L d i, true) := by
  intro d
  induction d with
  | zero =>
    intro i out hi ho
    refine ev_succ ?_
    simp only [spec_SureDigits.l0]
    refine ev_neg (by omega) (ev_eq fun _ => ?_)
    rw [tl, ByteArray.append_empty]
  | succ d ih =>
    intro i out hi ho
    refine ev_succ ?_
    simp only [spec_SureDigits.l0]
    have h4 : h.size = 4 := by rw [hh]; exact hL _ (List.getElem_mem hp)
    have hr : rdOf ByteArray.empty L 0 = h := by rw [hh]; exact rds_at L 0 hp
    rw [hr, wrap_nat (by omega)]
    refine ev_pos (by omega) (ev_pos (by omega) (ev_pos (by omega) (ev_pos (by omega) (ev_pos (by omega) ?_))))
    simp only [Int.toNat_natCast]
    rw [ex_U h h4 i (by omega)]
    refine spec_l1 h L hL hn i (by omega) out (by omega) _ ?_ L.length 0 (by omega) (by simp)
    have := ih (i + 1) (out ++ (⟨#[pd h L i]⟩ : ByteArray)) (by omega) (by rw [ByteArray.size_append, ho]; rfl)
    rw [ByteArray.append_assoc] at this
    exact this
theorem sg_four (l : List C2) : ∀ (c n : Nat) (out : List ByteArray), (∀ t ∈ out, t.size = 4) → ∀ t ∈ sg l c n out, t.size = 4
  | 0, _, _, h => h
  | c + 1, n, out, h => by
    refine sg_four l c (n + 1) _ ?_
    intro t ht
    split at ht
    · rcases List.mem_append.mp ht with ht | ht
      · exact h t ht
      · rw [List.mem_singleton.mp ht]; exact pre_size 4 n
    · exact h t ht
theorem sol_four (c : List C2) : ∀ t ∈ sol c, t.size = 4 := by
  rw [sol]
  exact sg_four c 1296 0 [] (fun t ht => by cases ht)
theorem sol_len (c : List C2) : (sol c).length ≤ 1296 := by
  rw [sol]
  have := sg_len c 1296 0 [] (Nat.le_refl _)
  omega
def sureR (c : List C2) : ByteArray × Bool := if goodB c = true ∧ ((sol c).length : Int) ≠ 0 then (four (rdOf ByteArray.empty (sol c) 0) (sol c), true) else (⟨#[]⟩, false)
theorem sureR_none {c : List C2} (h : ((sol c).length : Int) = 0) : sureR c = (⟨#[]⟩, false) := by unfold sureR; rw [if_neg (fun x => x.2 h)]
theorem sureR_bad {c : List C2} (h : goodB c = false) : sureR c = (⟨#[]⟩, false) := by unfold sureR; rw [if_neg (fun x => by rw [h] at x; exact Bool.noConfusion x.1)]
theorem sureR_some {c : List C2} (hb : goodB c = true) (h : ¬ ((sol c).length : Int) = 0) : sureR c = (four (rdOf ByteArray.empty (sol c) 0) (sol c), true) := by unfold sureR; rw [if_pos ⟨hb, h⟩]
theorem specSure_ev (c : List C2) : Ev (fun k => spec_SureDigits.f k c) (sureR c) := by
  unfold spec_SureDigits.f
  cases hb : goodB c with
  | true =>
    by_cases h0 : ((sol c).length : Int) = 0
    · rw [sureR_none h0]
      exact Ev.bind (pzGood_yes hb) (ev_pos rfl (Ev.bind (pzAll_ev c (all_good hb)) (ev_pos h0 (ev_eq fun _ => rfl))))
    · rw [sureR_some hb h0]
      refine Ev.bind (pzGood_yes hb) (ev_pos rfl (Ev.bind (pzAll_ev c (all_good hb)) (ev_neg h0 ?_)))
      have hp : 0 < (sol c).length := by omega
      have hr : rdOf ByteArray.empty (sol c) 0 = (sol c)[0] := rds_at (sol c) 0 hp
      have := spec_l0 (sol c)[0] (sol c) (sol_four c) (sol_len c) hp rfl 4 0 ⟨#[]⟩ rfl rfl
      rw [hr]
      exact this
  | false =>
    rw [sureR_bad hb]
    exact Ev.bind (pzGood_no hb) (ev_neg (by decide) (ev_eq fun _ => rfl))
theorem implSure_ev (c : List C2) : Ev (fun k => impl_SureDigits.f k c) (sureR c) := by
  unfold impl_SureDigits.f
  cases hb : goodB c with
  | true =>
    refine Ev.bind (Solutions_yes hb) ?_
    by_cases h0 : ((sol c).length : Int) = 0
    · rw [sureR_none h0]
      exact ev_pos h0 (ev_eq fun _ => rfl)
    · rw [sureR_some hb h0]
      have hp : 0 < (sol c).length := by omega
      have hr : rdOf ByteArray.empty (sol c) 0 = (sol c)[0] := rds_at (sol c) 0 hp
      have h4 : (rdOf ByteArray.empty (sol c) 0).size = 4 := by rw [hr]; exact sol_four c _ (List.getElem_mem hp)
      refine ev_neg h0 (ev_pos (List.all_eq_true.mpr fun t ht => by simpa using sol_four c t ht) (ev_eq fun _ => ?_))
      rw [impl_four _ _ h4 (sol_four c)]
  | false =>
    rw [sureR_bad hb]
    refine Ev.bind (Solutions_no hb) ?_
    exact ev_pos rfl (ev_eq fun _ => rfl)

theorem FnExactSureDigits : ∀ (l0_0 : List S23), ((∀ y ∈ l0_0, ((Lit.int .i64 y.f0).wf = true ∧ (Lit.int .i64 y.f1).wf = true ∧ (Lit.int .i64 y.f2).wf = true)) ∧ l0_0.length ≤ maxLen) → ∃ k, laws_FnExactSureDigits.f k l0_0 = some true := by
  rintro l ⟨_, hl⟩
  refine Ev.rounds ?_
  unfold laws_FnExactSureDigits.f
  refine ev_bind (szPuzzle_eq l 1048576 (by omega) (by omega) hl) ?_
  by_cases h : (l.length : Int) ≤ 1048576
  · rw [if_pos h]
    refine ev_neg (by omega) ?_
    have hm : (l.map conv).length = l.length := by simp
    have ht := toPuzzle_ev l (by omega)
    have hi := implSure_ev (l.map conv)
    have hs := specSure_ev (l.map conv)
    generalize l.map conv = c at hm ht hi hs
    generalize sureR c = r at hi hs
    refine Ev.bind ht ?_
    refine Ev.bind hs ?_
    refine Ev.bind ht ?_
    refine Ev.bind hi ?_
    refine ev_pos rfl ?_
    refine ev_neg (by simp) ?_
    refine Ev.bind ht ?_
    refine Ev.bind (eqPuzzle_ev _ (by omega)) ?_
    exact ev_eq fun _ => rfl
  · rw [if_neg h]
    exact ev_pos (by omega) (ev_eq fun _ => rfl)

end Go.Proofs.YtgpakeadepcgnaaDoor.Pure

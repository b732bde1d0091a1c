/- DigitsSummed: roots are what is left modulo nine, next numbers have the same digit sum and none between, ranks tell numbers of a sum, and broken counters count all numbers without their digit (numbers, lists and texts alone). -/
import Derived.Test.YtjpbadckmackbaaGreatDoorPFnDigitsSummedx9
namespace Go.Proofs.YtjpbadckmackbaaGreatDoor.Pure
open Go.RowKit Go.Proofs.YtjpbadckmackbaaGreatDoor.PFnDigitsSummed Go.Proofs.YtjpbadckmackbaaGreatDoorW.PrintWords Go.Proofs.YtjpbadckmackbaaGreatDoorW.PrintLast
set_option linter.unusedVariables false
set_option linter.unusedSimpArgs false

theorem wrap_of {x : Int} (h0 : -9223372036854775808 ≤ x) (h1 : x ≤ 9223372036854775807) : wrap64 x = x := by unfold wrap64; omega
theorem wrap_nat {i : Nat} (h : i < 4611686018427387904) : wrap64 ((i : Int) + 1) = ((i + 1 : Nat) : Int) := by unfold wrap64; omega
theorem ev_eq {α : Type} {g : Nat → Option α} {r : α} (h : ∀ k, g k = some r) : Ev g r := ⟨0, fun k _ => h k⟩
theorem ev_bind {α β : Type} {x : Option α} {f : Nat → α → Option β} {a : α} {r : β} (h : x = some a) (k : Ev (fun n => f n a) r) : Ev (fun n => x.bind (f n)) r := by subst h; exact k
theorem ev_pos {α : Type} {c : Prop} [Decidable c] {g f : Nat → Option α} {r : α} (h : c) (k : Ev g r) : Ev (fun n => if c then g n else f n) r := by simp only [if_pos h]; exact k
theorem ev_neg {α : Type} {c : Prop} [Decidable c] {g f : Nat → Option α} {r : α} (h : ¬ c) (k : Ev f r) : Ev (fun n => if c then g n else f n) r := by simp only [if_neg h]; exact k
theorem ev_from {α : Type} {g : Nat → Option α} {r : α} (K : Nat) (h : ∀ k, K ≤ k → g k = some r) : Ev g r := ⟨K, h⟩

/-! ### bytes of a text -/
theorem size_len (t : ByteArray) : t.data.toList.length = t.size := by rw [Array.length_toList]; rfl
theorem bt_get (t : ByteArray) (i : Nat) (h : i < t.data.toList.length) : bt t (i : Int) = ((t.data.toList[i]).toNat : Int) := by
  unfold bt
  rw [dif_pos (by rw [Int.toNat_natCast]; simpa using h)]
  simp only [Int.toNat_natCast]
  rfl
theorem ev_succ {α : Type} {g : Nat → Option α} {r : α} (h : Ev (fun k => g (k + 1)) r) : Ev g r := by
  obtain ⟨K, hK⟩ := h
  refine ev_from (K + 1) (fun k hk => ?_)
  obtain ⟨k, rfl⟩ : ∃ m, k = m + 1 := ⟨k - 1, by omega⟩
  exact hK k (by omega)
theorem ext_list (s : ByteArray) (a b : Nat) (hb : b ≤ s.size) : (s.extract a b).data.toList = (s.data.toList.take b).drop a := by
  rw [ByteArray.data_extract, Array.toList_extract, List.extract_eq_take_drop]
  rw [List.drop_take]
theorem take_list (s : ByteArray) (i : Nat) (h : i ≤ s.size) : (s.extract 0 i).data.toList = s.data.toList.take i := by rw [ext_list s 0 i h]; rfl
theorem drop_list (s : ByteArray) (i : Nat) : (s.extract i s.size).data.toList = s.data.toList.drop i := by
  rw [ext_list s i s.size (Nat.le_refl _), List.take_of_length_le (by rw [size_len]; exact Nat.le_refl _)]
theorem mk_data (s : ByteArray) : (⟨s.data.toList.toArray⟩ : ByteArray) = s := by cases s; simp
theorem of_list {s : ByteArray} {l : List UInt8} (h : s.data.toList = l) : s = ⟨l.toArray⟩ := by rw [← h, mk_data]
theorem list_of (l : List UInt8) : (⟨l.toArray⟩ : ByteArray).data.toList = l := by simp
theorem mk_size (l : List UInt8) : (⟨l.toArray⟩ : ByteArray).size = l.length := by rw [← size_len, list_of]
theorem mk_append (a b : List UInt8) : (⟨a.toArray⟩ : ByteArray) ++ ⟨b.toArray⟩ = ⟨(a ++ b).toArray⟩ := by
  apply of_list; rw [ByteArray.data_append, Array.toList_append, list_of, list_of]
theorem l1In_eq (n lo hi : Int) : spec_l1In.f n lo hi = some (decide (lo ≤ n ∧ n ≤ hi)) := by
  unfold spec_l1In.f
  by_cases h : n ≥ lo
  · rw [if_pos h]; congr 1; simp; intro _; omega
  · rw [if_neg h]; congr 1; simp; intro; omega
theorem within_eq (n lo hi : Int) : impl_within.f n lo hi = some (decide (lo ≤ n ∧ n ≤ hi)) := by
  unfold impl_within.f
  by_cases h : lo ≤ n
  · rw [if_pos h]; congr 1; simp; intro _; omega
  · rw [if_neg h]; congr 1; simp; intro; omega

/-! ### digit sums, and how many numbers below one have a sum -/
def ds (n : Nat) : Int := if h : n < 10 then (n : Int) else ((n % 10 : Nat) : Int) + ds (n / 10)
termination_by n
decreasing_by omega
theorem ds_small {n : Nat} (h : n < 10) : ds n = n := by rw [ds, dif_pos h]
theorem ds_step (n : Nat) : ds n = ((n % 10 : Nat) : Int) + ds (n / 10) := by
  by_cases h : n < 10
  · rw [ds_small h, Nat.div_eq_of_lt h, Nat.mod_eq_of_lt h, ds_small (by omega)]; simp
  · rw [ds, dif_neg h]
theorem ds_cons (a d : Nat) (h : d < 10) : ds (10 * a + d) = ds a + d := by
  rw [ds_step, show (10 * a + d) % 10 = d by omega, show (10 * a + d) / 10 = a by omega]; omega
theorem ds_nonneg (n : Nat) : 0 ≤ ds n := by
  induction n using Nat.strongRecOn with
  | _ n ih =>
    by_cases h : n < 10
    · rw [ds_small h]; omega
    · rw [ds_step]; have := ih (n / 10) (by omega); omega
theorem ds_pos {n : Nat} (h : 0 < n) : 0 < ds n := by
  induction n using Nat.strongRecOn with
  | _ n ih =>
    by_cases h1 : n < 10
    · rw [ds_small h1]; omega
    · rw [ds_step]; have := ih (n / 10) (by omega) (by omega); omega
theorem ds_le (k : Nat) : ∀ n, n < 10 ^ k → ds n ≤ 9 * k := by
  induction k with
  | zero => intro n h; have : n = 0 := by simpa using h
            subst this; rw [ds_small (by omega)]; omega
  | succ k ih =>
    intro n h
    rw [ds_step]
    have := ih (n / 10) (by rw [Nat.pow_succ] at h; omega)
    omega
theorem ds_split (k : Nat) : ∀ n, ds n = ds (n % 10 ^ k) + ds (n / 10 ^ k) := by
  induction k with
  | zero => intro n; simp [ds_small, Nat.mod_one]
  | succ k ih =>
    intro n
    rw [ds_step n, ih (n / 10), ds_step (n % 10 ^ (k + 1))]
    have h1 : n % 10 ^ (k + 1) % 10 = n % 10 := Nat.mod_mod_of_dvd n ⟨10 ^ k, by rw [Nat.pow_succ, Nat.mul_comm]⟩
    have h2 : n % 10 ^ (k + 1) / 10 = n / 10 % 10 ^ k := by rw [Nat.pow_succ, Nat.mul_comm, Nat.mod_mul_right_div_self]
    have h3 : n / 10 / 10 ^ k = n / 10 ^ (k + 1) := by rw [Nat.div_div_eq_div_mul, Nat.pow_succ, Nat.mul_comm]
    rw [h1, h2, h3]; omega
/-- how many texts of k digits have a sum -/
def W : Nat → Int → Int
  | 0, s => if s = 0 then 1 else 0
  | k + 1, s => W k s + W k (s - 1) + W k (s - 2) + W k (s - 3) + W k (s - 4) + W k (s - 5) + W k (s - 6) + W k (s - 7) + W k (s - 8) + W k (s - 9)
theorem W_neg (k : Nat) : ∀ s, s < 0 → W k s = 0 := by
  induction k with
  | zero => intro s h; simp only [W]; rw [if_neg (by omega)]
  | succ k ih => intro s h; simp only [W]; repeat rw [ih _ (by omega)]
                 rfl
theorem W_big (k : Nat) : ∀ s, 9 * (k : Int) < s → W k s = 0 := by
  induction k with
  | zero => intro s h; simp only [W]; rw [if_neg (by omega)]
  | succ k ih => intro s h; simp only [W]; repeat rw [ih _ (by omega)]
                 rfl
theorem W_nonneg (k : Nat) : ∀ s, 0 ≤ W k s := by
  induction k with
  | zero => intro s; simp only [W]; split <;> omega
  | succ k ih => intro s; simp only [W]; have h := fun x => ih (s - x); have h0 := ih s; have h1 := h 1; have h2 := h 2; have h3 := h 3; have h4 := h 4; have h5 := h 5; have h6 := h 6; have h7 := h 7; have h8 := h 8; have h9 := h 9; omega
theorem W_le (k : Nat) : ∀ s, W k s ≤ 10 ^ k := by
  induction k with
  | zero => intro s; simp only [W]; split <;> simp
  | succ k ih => intro s; simp only [W]; have h := fun x => ih (s - x); have h0 := ih s; have h1 := h 1; have h2 := h 2; have h3 := h 3; have h4 := h 4; have h5 := h 5; have h6 := h 6; have h7 := h 7; have h8 := h 8; have h9 := h 9; rw [Int.pow_succ]; omega
/-- how many numbers below n have a sum -/
def cnt (s : Int) : Nat → Int
  | 0 => 0
  | n + 1 => cnt s n + if ds n = s then 1 else 0
theorem cnt_mono (s : Int) {m n : Nat} (h : m ≤ n) : cnt s m ≤ cnt s n := by
  induction n with
  | zero => have : m = 0 := by omega
            subst this; exact Int.le_refl _
  | succ n ih =>
    by_cases e : m = n + 1
    · subst e; exact Int.le_refl _
    · have := ih (by omega); simp only [cnt]; split <;> omega
theorem cnt_nonneg (s : Int) (n : Nat) : 0 ≤ cnt s n := cnt_mono s (m := 0) (Nat.zero_le n)
theorem cnt_le (s : Int) (n : Nat) : cnt s n ≤ n := by
  induction n with
  | zero => simp [cnt]
  | succ n ih => simp only [cnt]; split <;> omega
theorem cnt_hit {s : Int} {n : Nat} (h : ds n = s) : cnt s (n + 1) = cnt s n + 1 := by simp only [cnt]; rw [if_pos h]
theorem cnt_miss {s : Int} {n : Nat} (h : ds n ≠ s) : cnt s (n + 1) = cnt s n := by simp only [cnt]; rw [if_neg h]; omega
theorem cnt_gap {s : Int} {m n : Nat} (h : m ≤ n) (hn : ∀ x, m ≤ x → x < n → ds x ≠ s) : cnt s n = cnt s m := by
  induction n with
  | zero => have : m = 0 := by omega
            subst this; rfl
  | succ n ih =>
    by_cases e : m = n + 1
    · subst e; rfl
    · rw [cnt_miss (hn n (by omega) (by omega)), ih (by omega) (fun x h1 h2 => hn x h1 (by omega))]
theorem cnt_inj {s : Int} {m n : Nat} (hm : ds m = s) (hn : ds n = s) (h : cnt s m = cnt s n) : m = n := by
  rcases Nat.lt_trichotomy m n with h1 | h1 | h1
  · have := cnt_mono s (m := m + 1) (n := n) h1; rw [cnt_hit hm] at this; omega
  · exact h1
  · have := cnt_mono s (m := n + 1) (n := m) h1; rw [cnt_hit hn] at this; omega
theorem cnt_block (k : Nat) : ∀ (s : Int) (a : Nat), cnt s (10 ^ k * (a + 1)) = cnt s (10 ^ k * a) + W k (s - ds a) := by
  induction k with
  | zero =>
    intro s a
    rw [Nat.pow_zero, Nat.one_mul, Nat.one_mul]
    simp only [W, cnt]
    by_cases h : ds a = s
    · rw [if_pos h, if_pos (by omega)]
    · rw [if_neg h, if_neg (by omega)]
  | succ k ih =>
    intro s a
    have st : ∀ d, d < 10 → cnt s (10 ^ k * (10 * a + d + 1)) = cnt s (10 ^ k * (10 * a + d)) + W k (s - ds a - d) := fun d hd => by
      rw [ih s (10 * a + d), ds_cons a d hd, show s - (ds a + (d : Int)) = s - ds a - d by omega]
    have e0 : 10 ^ (k + 1) * a = 10 ^ k * (10 * a + 0) := by rw [Nat.pow_succ, Nat.mul_assoc]; rfl
    have e1 : 10 ^ (k + 1) * (a + 1) = 10 ^ k * (10 * a + 9 + 1) := by rw [Nat.pow_succ, Nat.mul_assoc]; congr 1
    rw [e0, e1, st 9 (by omega), st 8 (by omega), st 7 (by omega), st 6 (by omega), st 5 (by omega), st 4 (by omega), st 3 (by omega), st 2 (by omega), st 1 (by omega), st 0 (by omega)]
    simp only [W]
    simp
    omega

/-! ### texts of digits: sums, numbers -/
def dv (b : UInt8) : Int := ((b.toNat : Int) - 48) % 256
theorem dv_range (b : UInt8) : 0 ≤ dv b ∧ dv b ≤ 255 := by unfold dv; omega
def lsum : List UInt8 → Int
  | [] => 0
  | b :: l => dv b + lsum l
theorem lsum_range (l : List UInt8) : 0 ≤ lsum l ∧ lsum l ≤ 255 * l.length := by
  induction l with
  | nil => simp [lsum]
  | cons b l ih => have := dv_range b; simp only [lsum, List.length_cons]; omega
theorem lsum_append (a b : List UInt8) : lsum (a ++ b) = lsum a + lsum b := by
  induction a with
  | nil => simp [lsum]
  | cons x a ih => simp only [List.cons_append, lsum, ih]; omega
def dch (d : Nat) : UInt8 := UInt8.ofNat (48 + d)
theorem dch_nat {d : Nat} (h : d < 10) : (dch d).toNat = 48 + d := by unfold dch; rw [UInt8.toNat_ofNat']; omega
theorem dv_dch {d : Nat} (h : d < 10) : dv (dch d) = d := by unfold dv; rw [dch_nat h]; omega
/-- k digits of n, zeros in front -/
def pad : Nat → Nat → List UInt8
  | 0, _ => []
  | k + 1, n => pad k (n / 10) ++ [dch (n % 10)]
theorem pad_length (k : Nat) : ∀ n, (pad k n).length = k := by
  induction k with
  | zero => intro n; rfl
  | succ k ih => intro n; simp [pad, ih]
theorem pad_zero (k : Nat) : pad k 0 = List.replicate k 48 := by
  induction k with
  | zero => rfl
  | succ k ih => rw [List.replicate_succ', ← ih]; rfl
theorem pad_take (k : Nat) : ∀ (j n : Nat), (pad (k + j) n).take k = pad k (n / 10 ^ j) := by
  intro j
  induction j with
  | zero => intro n; rw [Nat.add_zero, List.take_of_length_le (by rw [pad_length]; exact Nat.le_refl _)]; simp
  | succ j ih =>
    intro n
    rw [show k + (j + 1) = (k + j) + 1 by omega]
    simp only [pad]
    rw [List.take_append_of_le_length (by rw [pad_length]; omega), ih, Nat.div_div_eq_div_mul, Nat.pow_succ, Nat.mul_comm]
theorem pad_drop (j : Nat) : ∀ (k n : Nat), (pad (k + j) n).drop k = pad j (n % 10 ^ j) := by
  induction j with
  | zero => intro k n; rw [Nat.add_zero, List.drop_eq_nil_of_le (by rw [pad_length]; exact Nat.le_refl _)]; rfl
  | succ j ih =>
    intro k n
    rw [show k + (j + 1) = (k + j) + 1 by omega]
    simp only [pad]
    rw [List.drop_append_of_le_length (by rw [pad_length]; omega), ih]
    congr 1
    · congr 1
      rw [Nat.pow_succ, Nat.mul_comm, Nat.mod_mul_right_div_self]
    · congr 2
      rw [Nat.pow_succ, Nat.mul_comm]; exact (Nat.mod_mul_right_mod n 10 (10 ^ j)).symm
theorem pad_get (k n i : Nat) (h : i < (pad k n).length) : (pad k n)[i] = dch (n / 10 ^ (k - 1 - i) % 10) := by
  induction k generalizing n i with
  | zero => simp [pad] at h
  | succ k ih =>
    rw [pad_length] at h
    simp only [pad]
    by_cases c : i < k
    · rw [List.getElem_append_left (by rw [pad_length]; exact c), ih _ _ (by rw [pad_length]; exact c), Nat.div_div_eq_div_mul, show k + 1 - 1 - i = (k - 1 - i) + 1 by omega, Nat.pow_succ, Nat.mul_comm]
    · have : i = k := by omega
      subst this
      rw [List.getElem_append_right (by rw [pad_length]; exact Nat.le_refl _)]
      simp [pad_length]
theorem lsum_pad (k : Nat) : ∀ n, n < 10 ^ k → lsum (pad k n) = ds n := by
  induction k with
  | zero => intro n h; have : n = 0 := by simpa using h
            subst this; rw [ds_small (by omega)]; rfl
  | succ k ih =>
    intro n h
    simp only [pad]
    rw [lsum_append, ih _ (by rw [Nat.pow_succ] at h; omega), ds_step n]
    simp only [lsum, dv_dch (Nat.mod_lt n (by omega : 0 < 10))]; omega
def lnum (a : Int) : List UInt8 → Int
  | [] => a
  | b :: l => lnum (10 * a + dv b) l
theorem lnum_append (l m : List UInt8) : ∀ a, lnum a (l ++ m) = lnum (lnum a l) m := by
  induction l with
  | nil => intro a; rfl
  | cons b l ih => intro a; simp only [List.cons_append, lnum, ih]
theorem lnum_pad (k : Nat) : ∀ n, n < 10 ^ k → lnum 0 (pad k n) = n := by
  induction k with
  | zero => intro n h; have : n = 0 := by simpa using h
            subst this; rfl
  | succ k ih =>
    intro n h
    simp only [pad]
    rw [lnum_append, ih _ (by rw [Nat.pow_succ] at h; omega)]
    simp only [lnum, dv_dch (Nat.mod_lt n (by omega : 0 < 10))]; omega
theorem dec_pad (n : Nat) : Lib.decDigits n = pad (Lib.nDigits n) n := by
  induction n using Nat.strongRecOn with
  | _ n ih =>
    by_cases h : n < 10
    · rw [Lib.decDigits, dif_pos h, Lib.nDigits_small h]; simp [pad, dch, Nat.mod_eq_of_lt h]
    · rw [Lib.decDigits, dif_neg h, Lib.nDigits_big h, ih _ (by omega)]; rfl
theorem pad_front (j k n : Nat) (h : n < 10 ^ k) : pad (j + k) n = List.replicate j 48 ++ pad k n := by
  induction k generalizing n with
  | zero => have : n = 0 := by simpa using h
            subst this; simp [pad, pad_zero]
  | succ k ih =>
    rw [show j + (k + 1) = (j + k) + 1 by omega]
    simp only [pad]
    rw [ih _ (by rw [Nat.pow_succ] at h; omega), List.append_assoc]

/-! ### lists told by a function -/
def tab (n : Nat) (f : Nat → Int) : List Int := (List.range n).map f
theorem tab_len (n : Nat) (f : Nat → Int) : (tab n f).length = n := by simp [tab]
theorem tab_rd {n : Nat} {f : Nat → Int} {i : Nat} (h : i < n) : rd (tab n f) (i : Int) = f i := by
  unfold rd tab
  rw [Int.toNat_natCast, List.getD_eq_getElem?_getD, List.getElem?_eq_getElem (by simpa using h)]
  simp
theorem tab_set (n : Nat) (f : Nat → Int) (j : Nat) (v : Int) : (tab n f).set j v = tab n (fun i => if i = j then v else f i) := by
  unfold tab
  apply List.ext_getElem
  · simp
  · intro i h1 h2
    rw [List.getElem_set]
    simp only [List.getElem_map, List.getElem_range]
    by_cases c : j = i
    · rw [if_pos c, if_pos c.symm]
    · rw [if_neg c, if_neg (fun e => c e.symm)]
theorem tab_zero (n : Nat) : List.replicate n (0 : Int) = tab n (fun _ => 0) := by
  unfold tab
  apply List.ext_getElem <;> simp
theorem tab_congr {n : Nat} {f g : Nat → Int} (h : ∀ i, i < n → f i = g i) : tab n f = tab n g := by
  unfold tab
  apply List.ext_getElem
  · simp
  · intro i h1 h2
    simp only [List.getElem_map, List.getElem_range]
    exact h i (by simpa using h1)

/-! ### the table of ways -/
theorem p10 (k : Nat) : (10 : Int) ^ k = ((10 ^ k : Nat) : Int) := by rw [Int.natCast_pow]; rfl
theorem p10_le {a b : Nat} (h : a ≤ b) : (10 : Int) ^ a ≤ 10 ^ b := by rw [p10, p10]; exact Int.ofNat_le.mpr (Nat.pow_le_pow_right (by omega) h)
def wl (k : Nat) : List Int := tab (9 * k + 1) (fun i => W k i)
/-- what counts s, s + 1, .. bring to count i, digits below m alone -/
def T (k : Nat) (s i : Int) : Nat → Int
  | 0 => 0
  | m + 1 => T k s i m + if s ≤ i - m then W k (i - m) else 0
theorem T_nonneg (k : Nat) (s i : Int) (m : Nat) : 0 ≤ T k s i m := by
  induction m with
  | zero => exact Int.le_refl _
  | succ m ih => simp only [T]; have := W_nonneg k (i - m); split <;> omega
theorem T_step (k : Nat) (s i : Int) (m : Nat) : T k s i m = T k (s + 1) i m + if s ≤ i ∧ i < s + m then W k s else 0 := by
  induction m with
  | zero => simp only [T]; rw [if_neg (by omega)]; try rfl
  | succ m ih =>
    simp only [T]
    rw [ih]
    by_cases h : i - m = s
    · rw [h, if_pos (Int.le_refl s), if_neg (show ¬ (s + 1 ≤ s) by omega), if_neg (show ¬ (s ≤ i ∧ i < s + m) by omega), if_pos (show s ≤ i ∧ i < s + ((m + 1 : Nat) : Int) by omega)]; try omega
    · by_cases c : s ≤ i ∧ i < s + m
      · rw [if_pos c, if_pos (show s ≤ i ∧ i < s + ((m + 1 : Nat) : Int) by omega)]
        by_cases d : s ≤ i - m
        · rw [if_pos d, if_pos (by omega)]; omega
        · rw [if_neg d, if_neg (by omega)]; omega
      · rw [if_neg c, if_neg (show ¬ (s ≤ i ∧ i < s + ((m + 1 : Nat) : Int)) by omega)]
        by_cases d : s ≤ i - m
        · rw [if_pos d, if_pos (by omega)]; omega
        · rw [if_neg d, if_neg (by omega)]; try omega
theorem T_end (k : Nat) (s i : Int) (m : Nat) (h : 9 * (k : Int) < s) : T k s i m = 0 := by
  induction m with
  | zero => rfl
  | succ m ih =>
    simp only [T]
    rw [ih]
    by_cases c : s ≤ i - m
    · rw [if_pos c, W_big k _ (by omega)]; try rfl
    · rw [if_neg c]; try rfl
theorem T_all (k : Nat) (i : Int) : T k 0 i 10 = W (k + 1) i := by
  have e : ∀ x : Int, (if (0 : Int) ≤ x then W k x else 0) = W k x := fun x => by
    by_cases c : 0 ≤ x
    · rw [if_pos c]
    · rw [if_neg c, W_neg k x (by omega)]
  simp only [T, e, W]
  simp
theorem iways_l2 (N s : Nat) (n : Int) (x9 x10 : Int) (x16 : List Int) (x17 x18 : Int) (hN : s + 10 ≤ N) (hb : N ≤ 1000000) (hn : 0 ≤ n) (hn2 : n ≤ 100000000000000) (r : List Int) :
    ∀ (e d : Nat) (g : Nat → Int), d + e = 10 → (∀ i, s + d ≤ i → 0 ≤ g i ∧ g i ≤ 100000000000000) →
      Ev (fun k => impl_ways.l1 k (tab N (fun i => if s + d ≤ i ∧ i < s + 10 then g i + n else g i)) x9 x10 x16 x17 (wrap64 (x18 + 1))) r →
      Ev (fun k => impl_ways.l2 k (tab N g) (s : Int) n x9 x10 x16 x17 x18 (d : Int)) r := by
  intro e
  induction e with
  | zero =>
    intro d g hd hg h
    refine ev_succ ?_
    simp only [impl_ways.l2]
    refine ev_neg (by omega) ?_
    have : (tab N fun i => if s + d ≤ i ∧ i < s + 10 then g i + n else g i) = tab N g := tab_congr (fun i _ => if_neg (by omega))
    rw [this] at h
    exact h
  | succ e ih =>
    intro d g hd hg h
    refine ev_succ ?_
    simp only [impl_ways.l2]
    have hw : wrap64 ((s : Int) + d) = ((s + d : Nat) : Int) := by rw [wrap_of (by omega) (by omega)]; omega
    rw [hw, tab_len, tab_rd (by omega), Int.toNat_natCast, tab_set, wrap_nat (i := d) (by omega)]
    refine ev_pos (by omega) (ev_pos (by omega) (ev_pos (by omega) ?_))
    have hg1 := hg (s + d) (Nat.le_refl _)
    rw [wrap_of (x := g (s + d) + n) (by omega) (by omega)]
    refine ih (d + 1) (fun i => if i = s + d then g (s + d) + n else g i) (by omega) (fun i hi => ?_) ?_
    · rw [if_neg (by omega)]; exact hg i (by omega)
    · have : (tab N fun i => if s + (d + 1) ≤ i ∧ i < s + 10 then (if i = s + d then g (s + d) + n else g i) + n else (if i = s + d then g (s + d) + n else g i)) = tab N fun i => if s + d ≤ i ∧ i < s + 10 then g i + n else g i := by
        refine tab_congr (fun i _ => ?_)
        by_cases c : i = s + d
        · subst c
          rw [if_neg (by omega), if_pos rfl, if_pos (by omega)]
        · rw [if_neg c]
          by_cases c2 : s + d ≤ i ∧ i < s + 10
          · rw [if_pos (by omega), if_pos c2]
          · rw [if_neg (by omega), if_neg c2]
      rw [this]
      exact h
theorem iways_l1 (q : Nat) (hq : q ≤ 13) (x9 x10 : Int) (r : List Int) (h : Ev (fun k => impl_ways.l0 k (wl (q + 1)) x9 (wrap64 (x10 + 1))) r) :
    ∀ (e s : Nat) (g : Nat → Int), s + e = 9 * q + 1 → (∀ i, 0 ≤ g i ∧ g i + T q s i 10 = W (q + 1) i) →
      Ev (fun k => impl_ways.l1 k (tab (9 * q + 10) g) x9 x10 (wl q) ((9 * q + 1 : Nat) : Int) (s : Int)) r := by
  have hW : ∀ i, W (q + 1) i ≤ 100000000000000 := fun i => by
    have h1 := W_le (q + 1) i
    have h2 : (10 : Int) ^ (q + 1) ≤ 10 ^ 14 := p10_le (by omega)
    omega
  intro e
  induction e with
  | zero =>
    intro s g hs hg
    refine ev_succ ?_
    simp only [impl_ways.l1]
    refine ev_neg (by omega) ?_
    have : tab (9 * q + 10) g = wl (q + 1) := by
      unfold wl
      rw [show 9 * (q + 1) + 1 = 9 * q + 10 by omega]
      refine tab_congr (fun i _ => ?_)
      have := (hg i).2
      rw [T_end q s i 10 (by omega)] at this
      omega
    rw [this]
    exact h
  | succ e ih =>
    intro s g hs hg
    refine ev_succ ?_
    simp only [impl_ways.l1]
    have hl : (wl q).length = 9 * q + 1 := tab_len _ _
    have hr : rd (wl q) (s : Int) = W q s := tab_rd (by omega)
    rw [hl, hr]
    refine ev_pos (by omega) (ev_pos (by omega) (ev_pos (by omega) ?_))
    have hn := W_nonneg q s
    have hn2 : W q s ≤ 100000000000000 := by
      have h1 := W_le q s
      have h2 : (10 : Int) ^ q ≤ 10 ^ 14 := p10_le (by omega)
      omega
    have hT : ∀ i : Nat, 0 ≤ T q s i 10 := fun i => T_nonneg q s i 10
    have key := iways_l2 (9 * q + 10) s (W q s) x9 x10 (wl q) ((9 * q + 1 : Nat) : Int) (s : Int) (by omega) (by omega) hn hn2 r 10 0 g (by omega) (fun i _ => ⟨(hg i).1, by have := (hg i).2; have := hT i; have := hW i; omega⟩)
    refine key ?_
    have hw : wrap64 ((s : Int) + 1) = ((s + 1 : Nat) : Int) := wrap_nat (by omega)
    rw [hw]
    refine ih (s + 1) _ (by omega) (fun i => ?_)
    have h1 := hg i
    have h2 := T_step q s i 10
    have h3 : ((s + 1 : Nat) : Int) = (s : Int) + 1 := by omega
    rw [h3]
    by_cases c : s + 0 ≤ i ∧ i < s + 10
    · rw [if_pos c]
      rw [if_pos (by omega)] at h2
      omega
    · rw [if_neg c]
      rw [if_neg (by omega)] at h2
      omega
theorem iways_l0 (p : Nat) (hp : p ≤ 13) : ∀ (e j : Nat), j + e = p → Ev (fun k => impl_ways.l0 k (wl j) (p : Int) (j : Int)) (wl p) := by
  intro e
  induction e with
  | zero =>
    intro j hj
    refine ev_succ ?_
    simp only [impl_ways.l0]
    have : j = p := by omega
    subst this
    exact ev_neg (by omega) (ev_eq fun _ => rfl)
  | succ e ih =>
    intro j hj
    refine ev_succ ?_
    simp only [impl_ways.l0]
    have hl : (wl j).length = 9 * j + 1 := tab_len _ _
    have hw : wrap64 (((9 * j + 1 : Nat) : Int) + 9) = ((9 * j + 10 : Nat) : Int) := by rw [wrap_of (by omega) (by omega)]; omega
    rw [hl, hw, Int.toNat_natCast, tab_zero]
    refine ev_pos (by omega) (ev_pos (by omega) (ev_pos (by omega) ?_))
    refine iways_l1 j (by omega) (p : Int) (j : Int) (wl p) ?_ (9 * j + 1) 0 (fun _ => 0) (by omega) (fun i => ⟨Int.le_refl 0, ?_⟩)
    · rw [wrap_nat (i := j) (by omega)]
      exact ih (j + 1) (by omega)
    · have := T_all j i
      simp only [Int.zero_add]
      exact this
theorem iways_ev (p : Nat) (hp : p ≤ 13) : Ev (fun k => impl_ways.f k (p : Int)) (wl p) := by
  unfold impl_ways.f
  exact iways_l0 p hp p 0 (by omega)

theorem sways_l2 (N s : Nat) (n : Int) (x0 : Int) (x16 : List Int) (x17 x18 : Int) (hN : s + 10 ≤ N) (hb : N ≤ 1000000) (hn : 0 ≤ n) (hn2 : n ≤ 100000000000000) (r : List Int) :
    ∀ (e d : Nat) (g : Nat → Int), d + e = 10 → (∀ i, s + d ≤ i → 0 ≤ g i ∧ g i ≤ 100000000000000) →
      Ev (fun k => spec_tkWays.l1 k x0 (tab N (fun i => if s + d ≤ i ∧ i < s + 10 then g i + n else g i)) x16 x17 (wrap64 (x18 + 1))) r →
      Ev (fun k => spec_tkWays.l2 k x0 (tab N g) (s : Int) n (d : Int) x16 x17 x18) r := by
  intro e
  induction e with
  | zero =>
    intro d g hd hg h
    refine ev_succ ?_
    simp only [spec_tkWays.l2]
    refine ev_neg (by omega) ?_
    have : (tab N fun i => if s + d ≤ i ∧ i < s + 10 then g i + n else g i) = tab N g := tab_congr (fun i _ => if_neg (by omega))
    rw [this] at h
    exact h
  | succ e ih =>
    intro d g hd hg h
    refine ev_succ ?_
    simp only [spec_tkWays.l2]
    have hw : wrap64 ((s : Int) + d) = ((s + d : Nat) : Int) := by rw [wrap_of (by omega) (by omega)]; omega
    rw [hw, tab_len, tab_rd (by omega), Int.toNat_natCast, tab_set, wrap_nat (i := d) (by omega)]
    refine ev_pos (by omega) (ev_pos (by omega) (ev_pos (by omega) ?_))
    have hg1 := hg (s + d) (Nat.le_refl _)
    rw [wrap_of (x := g (s + d) + n) (by omega) (by omega)]
    refine ih (d + 1) (fun i => if i = s + d then g (s + d) + n else g i) (by omega) (fun i hi => ?_) ?_
    · rw [if_neg (by omega)]; exact hg i (by omega)
    · have : (tab N fun i => if s + (d + 1) ≤ i ∧ i < s + 10 then (if i = s + d then g (s + d) + n else g i) + n else (if i = s + d then g (s + d) + n else g i)) = tab N fun i => if s + d ≤ i ∧ i < s + 10 then g i + n else g i := by
        refine tab_congr (fun i _ => ?_)
        by_cases c : i = s + d
        · subst c
          rw [if_neg (by omega), if_pos rfl, if_pos (by omega)]
        · rw [if_neg c]
          by_cases c2 : s + d ≤ i ∧ i < s + 10
          · rw [if_pos (by omega), if_pos c2]
          · rw [if_neg (by omega), if_neg c2]
      rw [this]
      exact h
theorem sways_l1 (q : Nat) (hq : q ≤ 13) (x0 : Int) (r : List Int) (h : Ev (fun k => spec_tkWays.l0 k (wrap64 (x0 - 1)) (wl (q + 1))) r) :
    ∀ (e s : Nat) (g : Nat → Int), s + e = 9 * q + 1 → (∀ i, 0 ≤ g i ∧ g i + T q s i 10 = W (q + 1) i) →
      Ev (fun k => spec_tkWays.l1 k x0 (tab (9 * q + 10) g) (wl q) ((9 * q + 1 : Nat) : Int) (s : Int)) r := by
  have hW : ∀ i, W (q + 1) i ≤ 100000000000000 := fun i => by
    have h1 := W_le (q + 1) i
    have h2 : (10 : Int) ^ (q + 1) ≤ 10 ^ 14 := p10_le (by omega)
    omega
  intro e
  induction e with
  | zero =>
    intro s g hs hg
    refine ev_succ ?_
    simp only [spec_tkWays.l1]
    refine ev_neg (by omega) ?_
    have : tab (9 * q + 10) g = wl (q + 1) := by
      unfold wl
      rw [show 9 * (q + 1) + 1 = 9 * q + 10 by omega]
      refine tab_congr (fun i _ => ?_)
      have := (hg i).2
      rw [T_end q s i 10 (by omega)] at this
      omega
    rw [this]
    exact h
  | succ e ih =>
    intro s g hs hg
    refine ev_succ ?_
    simp only [spec_tkWays.l1]
    have hl : (wl q).length = 9 * q + 1 := tab_len _ _
    have hr : rd (wl q) (s : Int) = W q s := tab_rd (by omega)
    rw [hl, hr]
    refine ev_pos (by omega) (ev_pos (by omega) (ev_pos (by omega) ?_))
    have hn := W_nonneg q s
    have hn2 : W q s ≤ 100000000000000 := by
      have h1 := W_le q s
      have h2 : (10 : Int) ^ q ≤ 10 ^ 14 := p10_le (by omega)
      omega
    have hT : ∀ i : Nat, 0 ≤ T q s i 10 := fun i => T_nonneg q s i 10
    have key := sways_l2 (9 * q + 10) s (W q s) x0 (wl q) ((9 * q + 1 : Nat) : Int) (s : Int) (by omega) (by omega) hn hn2 r 10 0 g (by omega) (fun i _ => ⟨(hg i).1, by have := (hg i).2; have := hT i; have := hW i; omega⟩)
    refine key ?_
    have hw : wrap64 ((s : Int) + 1) = ((s + 1 : Nat) : Int) := wrap_nat (by omega)
    rw [hw]
    refine ih (s + 1) _ (by omega) (fun i => ?_)
    have h1 := hg i
    have h2 := T_step q s i 10
    have h3 : ((s + 1 : Nat) : Int) = (s : Int) + 1 := by omega
    rw [h3]
    by_cases c : s + 0 ≤ i ∧ i < s + 10
    · rw [if_pos c]
      rw [if_pos (by omega)] at h2
      omega
    · rw [if_neg c]
      rw [if_neg (by omega)] at h2
      omega
theorem sways_l0 (p : Nat) (hp : p ≤ 13) : ∀ (e j : Nat), j + e = p → Ev (fun k => spec_tkWays.l0 k (e : Int) (wl j)) (wl p) := by
  intro e
  induction e with
  | zero =>
    intro j hj
    refine ev_succ ?_
    simp only [spec_tkWays.l0]
    have : j = p := by omega
    subst this
    exact ev_neg (by omega) (ev_eq fun _ => rfl)
  | succ e ih =>
    intro j hj
    refine ev_succ ?_
    simp only [spec_tkWays.l0]
    have hl : (wl j).length = 9 * j + 1 := tab_len _ _
    have hw : wrap64 (((9 * j + 1 : Nat) : Int) + 9) = ((9 * j + 10 : Nat) : Int) := by rw [wrap_of (by omega) (by omega)]; omega
    rw [hl, hw, Int.toNat_natCast, tab_zero]
    refine ev_pos (by omega) (ev_pos (by omega) (ev_pos (by omega) ?_))
    refine sways_l1 j (by omega) ((e + 1 : Nat) : Int) (wl p) ?_ (9 * j + 1) 0 (fun _ => 0) (by omega) (fun i => ⟨Int.le_refl 0, ?_⟩)
    · rw [show wrap64 (((e + 1 : Nat) : Int) - 1) = (e : Int) by rw [wrap_of (by omega) (by omega)]; omega]
      exact ih (j + 1) (by omega)
    · have := T_all j i
      simp only [Int.zero_add]
      exact this
theorem sways_ev (p : Nat) (hp : p ≤ 13) : Ev (fun k => spec_tkWays.f k (p : Int)) (wl p) := by
  unfold spec_tkWays.f
  exact sways_l0 p hp p 0 (by omega)
theorem nDig_le (n : Nat) : ∀ k, 0 < k → n < 10 ^ k → Lib.nDigits n ≤ k := by
  induction n using Nat.strongRecOn with
  | _ n ih =>
    intro k hk h
    by_cases c : n < 10
    · rw [Lib.nDigits_small c]; exact hk
    · rw [Lib.nDigits_big c]
      obtain ⟨k, rfl⟩ : ∃ j, k = j + 1 := ⟨k - 1, by omega⟩
      have hk1 : 0 < k := by
        rcases Nat.eq_zero_or_pos k with e | e
        · subst e; simp at h; omega
        · exact e
      have := ih (n / 10) (by omega) k hk1 (by rw [Nat.pow_succ] at h; omega)
      omega

/-! ### the reference's own decimals -/
theorem strOne (x : Int) (h0 : 0 ≤ x) (h : x < 256) : strOfNums [x] = (⟨[UInt8.ofNat x.toNat].toArray⟩ : ByteArray) := by
  unfold strOfNums
  simp
theorem l1Num_ev (n : Nat) (hn : n ≤ 9223372036854775807) : Ev (fun k => spec_l1Num.f k (n : Int)) ⟨(Lib.decDigits n).toArray⟩ := by
  induction n using Nat.strongRecOn with
  | _ n ih =>
    refine ev_succ ?_
    simp only [spec_l1Num.f]
    by_cases h : n < 10
    · refine ev_pos (by omega) (ev_eq fun _ => ?_)
      have e : wrap64 (48 + (n : Int)) % 256 = 48 + (n : Int) := by rw [wrap_of (by omega) (by omega)]; omega
      rw [e, strOne _ (by omega) (by omega), Lib.decDigits_one h, show (48 + (n : Int)).toNat = 48 + n by omega]
    · refine ev_neg (by omega) ?_
      have e1 : wrap64 (Int.tdiv (n : Int) 10) = ((n / 10 : Nat) : Int) := by
        rw [Int.tdiv_eq_ediv_of_nonneg (by omega), wrap_of (by omega) (by omega)]; omega
      rw [e1]
      have hd := ih (n / 10) (by omega) (by omega)
      refine Ev.bind hd (ev_eq fun _ => ?_)
      have e2 : Int.tmod (n : Int) 10 = ((n % 10 : Nat) : Int) := by rw [Int.tmod_eq_emod_of_nonneg (by omega)]; omega
      have e3 : wrap64 (48 + ((n % 10 : Nat) : Int)) % 256 = 48 + ((n % 10 : Nat) : Int) := by rw [wrap_of (by omega) (by omega)]; omega
      rw [e2, e3]
      simp only [Option.bind_some]
      rw [strOne _ (by omega) (by omega), show (48 + ((n % 10 : Nat) : Int)).toNat = 48 + n % 10 by omega]
      have hl := nDig_le (n / 10) 19 (by omega) (by omega)
      rw [mk_size, mk_size, Lib.decDigits_length, if_pos (by simp; omega), mk_append]
      congr 3
      rw [Lib.decDigits.eq_1 n, dif_neg h]

/-! ### the program's digit sum -/
theorem isumOf_loop (t : ByteArray) (hs : t.size ≤ 1099511627776) : ∀ (d i : Nat) (x : Int), i + d = t.size → 0 ≤ x → x ≤ 255 * i →
    Ev (fun k => impl_sumOf.l0 k t x (t.size : Int) (i : Int)) (x + lsum (t.data.toList.drop i)) := by
  intro d
  induction d with
  | zero =>
    intro i x hi _ _
    refine ev_succ ?_
    simp only [impl_sumOf.l0]
    rw [List.drop_eq_nil_of_le (by rw [size_len]; omega)]
    exact ev_neg (by omega) (ev_eq fun _ => by simp [lsum])
  | succ d ih =>
    intro i x hi h0 h1
    refine ev_succ ?_
    simp only [impl_sumOf.l0]
    have hlt : i < t.data.toList.length := by rw [size_len]; omega
    rw [bt_get t i hlt, List.drop_eq_getElem_cons hlt, wrap_nat (by omega)]
    have hd := dv_range (t.data.toList[i])
    have e1 : ((t.data.toList[i].toNat : Int) - 48) % 256 = dv (t.data.toList[i]) := rfl
    rw [e1, wrap_of (by omega) (by omega)]
    refine ev_pos (by omega) (ev_pos (by omega) (ev_pos (by omega) ?_))
    simp only [lsum]
    rw [← Int.add_assoc]
    exact ih (i + 1) _ (by omega) (by omega) (by omega)
theorem isumOf_ev (t : ByteArray) (hs : t.size ≤ 1099511627776) : Ev (fun k => impl_sumOf.f k t) (lsum t.data.toList) := by
  have h := isumOf_loop t hs t.size 0 0 (by omega) (Int.le_refl 0) (by omega)
  simp only [List.drop_zero, Int.zero_add] at h
  exact h
theorem itoa_nat (n : Nat) (h : n ≤ 9223372036854775807) : strconv_Itoa.f (n : Int) = some ⟨(Lib.decDigits n).toArray⟩ := by
  unfold strconv_Itoa.f
  rw [if_pos (by omega), if_pos (by omega), Lib.itoa_nonneg]
theorem nDigits_le (n : Nat) : ∀ k, 0 < k → n < 10 ^ k → Lib.nDigits n ≤ k := by
  induction n using Nat.strongRecOn with
  | _ n ih =>
    intro k hk h
    by_cases c : n < 10
    · rw [Lib.nDigits_small c]; exact hk
    · rw [Lib.nDigits_big c]
      obtain ⟨k, rfl⟩ : ∃ j, k = j + 1 := ⟨k - 1, by omega⟩
      have hk1 : 0 < k := by
        rcases Nat.eq_zero_or_pos k with e | e
        · subst e; simp at h; omega
        · exact e
      have := ih (n / 10) (by omega) k hk1 (by rw [Nat.pow_succ] at h; omega)
      omega
theorem dec_sum (n : Nat) : lsum (Lib.decDigits n) = ds n := by rw [dec_pad]; exact lsum_pad _ n (Lib.lt_pow_nDigits n)
theorem idigitSum_ev (n : Nat) (h : n ≤ 9223372036854775807) : Ev (fun k => impl_digitSum.f k (n : Int)) (ds n) := by
  unfold impl_digitSum.f
  refine ev_bind (itoa_nat n h) ?_
  have hs : (⟨(Lib.decDigits n).toArray⟩ : ByteArray).size ≤ 1099511627776 := by
    rw [mk_size, Lib.decDigits_length]
    have := nDigits_le n 19 (by omega) (by omega)
    omega
  have he := isumOf_ev _ hs
  rw [list_of, dec_sum] at he
  exact Ev.bind he (ev_eq fun _ => rfl)

/-! ### the program's own: at, sumOf, digitSum, padded -/
theorem at_wl (q : Nat) (hq : q ≤ 13) (s : Int) : impl_at.f (wl q) s = some (W q s) := by
  unfold impl_at.f
  have hl : (wl q).length = 9 * q + 1 := tab_len _ _
  rw [hl, wrap_of (by omega) (by omega), within_eq, Option.bind_some]
  by_cases h : 0 ≤ s ∧ s ≤ ((9 * q + 1 : Nat) : Int) - 1
  · rw [if_pos (by simpa using h), if_pos h.1, if_pos (by omega)]
    obtain ⟨j, rfl⟩ : ∃ j : Nat, s = (j : Int) := ⟨s.toNat, by omega⟩
    congr 1
    exact tab_rd (by omega)
  · rw [if_neg (by simpa using h)]
    congr 1
    by_cases c : s < 0
    · exact (W_neg q s c).symm
    · exact (W_big q s (by omega)).symm
theorem repeatL_one (c : Nat) : Lib.repeatL [48] c = List.replicate c (48 : UInt8) := by
  induction c with
  | zero => rfl
  | succ c ih => simp [Lib.repeatL, ih, List.replicate_succ]
theorem ipadded_ev (n p : Nat) (hp : 0 < p) (h : n < 10 ^ p) (hp2 : p ≤ 18) : Ev (fun _ => impl_padded.f (n : Int) (p : Int)) ⟨(pad p n).toArray⟩ := by
  refine ev_eq fun _ => ?_
  unfold impl_padded.f
  have hb : n < 10 ^ 18 := Nat.lt_of_lt_of_le h (Nat.pow_le_pow_right (by omega) hp2)
  have hd := nDigits_le n p hp h
  rw [itoa_nat n (by omega), Option.bind_some, mk_size, Lib.decDigits_length]
  have e1 : wrap64 ((p : Int) - (Lib.nDigits n : Int)) = ((p - Lib.nDigits n : Nat) : Int) := by rw [wrap_of (by omega) (by omega)]; omega
  have e2 : mx 0 ((p - Lib.nDigits n : Nat) : Int) = ((p - Lib.nDigits n : Nat) : Int) := by unfold mx; omega
  rw [e1, e2]
  unfold strings_Repeat.f
  have h48 : (⟨#[48]⟩ : ByteArray).size = 1 := rfl
  have hl48 : (⟨#[48]⟩ : ByteArray).data.toList = [48] := rfl
  rw [if_pos (by omega), if_pos (by omega), Int.toNat_natCast, h48, if_pos (by omega), hl48, repeatL_one]
  simp only [Option.bind_some]
  rw [mk_size, List.length_replicate, if_pos (by omega), mk_append]
  congr 3
  rw [dec_pad, ← pad_front _ _ _ (Lib.lt_pow_nDigits n), Nat.sub_add_cancel hd]

/-! ### texts of digits -/
abbrev mkT (j b : Nat) : ByteArray := ⟨(pad j b).toArray⟩
theorem T_size (j b : Nat) : (mkT j b).size = j := by rw [mk_size, pad_length]
theorem T_list (j b : Nat) : (mkT j b).data.toList = pad j b := list_of _
theorem T_ext0 (j b i : Nat) (h : i ≤ j) : (mkT j b).extract 0 i = mkT i (b / 10 ^ (j - i)) := by
  refine of_list ?_
  rw [take_list _ i (by rw [T_size]; exact h), T_list]
  have := pad_take i (j - i) b
  rw [show i + (j - i) = j by omega] at this
  exact this
theorem T_ext1 (j b i : Nat) (h : i ≤ j) : (mkT j b).extract i j = mkT (j - i) (b % 10 ^ (j - i)) := by
  have e : (mkT j b).extract i j = (mkT j b).extract i (mkT j b).size := by rw [T_size]
  rw [e]
  refine of_list ?_
  rw [drop_list _ i, T_list]
  have := pad_drop (j - i) i b
  rw [show i + (j - i) = j by omega] at this
  exact this
theorem one_digit (d : Nat) (hd : d < 10) : strOfNums [48 + (d : Int)] = (⟨[dch d].toArray⟩ : ByteArray) := by
  rw [strOne _ (by omega) (by omega)]
  congr 3
theorem T_snoc (j b d : Nat) (hd : d < 10) : mkT j b ++ strOfNums [48 + (d : Int)] = mkT (j + 1) (10 * b + d) := by
  rw [one_digit d hd, mk_append]
  simp only [mkT, pad]
  rw [show (10 * b + d) / 10 = b by omega, show (10 * b + d) % 10 = d by omega]
theorem T_bt (j b i : Nat) (h : i < j) : bt (mkT j b) (i : Int) = 48 + ((b / 10 ^ (j - 1 - i) % 10 : Nat) : Int) := by
  have hl : i < (mkT j b).data.toList.length := by rw [T_list, pad_length]; exact h
  rw [bt_get _ i hl, List.getElem_of_eq (T_list j b) hl, pad_get j b i (by rw [pad_length]; exact h), dch_nat (Nat.mod_lt _ (by decide))]; omega
theorem T_empty : (⟨#[]⟩ : ByteArray) = mkT 0 0 := rfl
theorem T_sum (j b : Nat) (hb : b < 10 ^ j) (hj : j ≤ 100) : Ev (fun k => impl_sumOf.f k (mkT j b)) (ds b) := by
  have h := isumOf_ev (mkT j b) (by rw [T_size]; omega)
  rw [T_list, lsum_pad j b hb] at h
  exact h
theorem ssum_loop (t : ByteArray) (hs : t.size ≤ 1099511627776) : ∀ (d i : Nat) (x : Int), i + d = t.size → 0 ≤ x → x ≤ 255 * i →
    Ev (fun k => spec_tkSum.l0 k t x (i : Int)) (x + lsum (t.data.toList.drop i)) := by
  intro d
  induction d with
  | zero =>
    intro i x hi _ _
    refine ev_succ ?_
    simp only [spec_tkSum.l0]
    rw [List.drop_eq_nil_of_le (by rw [size_len]; omega)]
    exact ev_neg (by omega) (ev_eq fun _ => by simp [lsum])
  | succ d ih =>
    intro i x hi h0 h1
    refine ev_succ ?_
    simp only [spec_tkSum.l0]
    have hlt : i < t.data.toList.length := by rw [size_len]; omega
    rw [bt_get t i hlt, List.drop_eq_getElem_cons hlt, wrap_nat (by omega)]
    have hd := dv_range (t.data.toList[i])
    have e1 : ((t.data.toList[i].toNat : Int) - 48) % 256 = dv (t.data.toList[i]) := rfl
    rw [e1, wrap_of (by omega) (by omega)]
    refine ev_pos (by omega) (ev_pos (by omega) ?_)
    simp only [lsum]
    rw [← Int.add_assoc]
    exact ih (i + 1) _ (by omega) (by omega) (by omega)
theorem sT_sum (j b : Nat) (hb : b < 10 ^ j) (hj : j ≤ 100) : Ev (fun k => spec_tkSum.f k (mkT j b)) (ds b) := by
  have h := ssum_loop (mkT j b) (by rw [T_size]; omega) (mkT j b).size 0 0 (by omega) (Int.le_refl 0) (by omega)
  simp only [List.drop_zero, Int.zero_add] at h
  rw [lsum_pad j b hb] at h
  exact h
theorem tkOf_wl (q : Nat) (hq : q ≤ 13) (s : Int) : spec_tkOf.f (wl q) s = some (W q s) := by
  unfold spec_tkOf.f
  have hl : (wl q).length = 9 * q + 1 := tab_len _ _
  rw [hl]
  by_cases c : s < 0
  · rw [if_pos c, W_neg q s c]
  · rw [if_neg c]
    by_cases c2 : s ≥ ((9 * q + 1 : Nat) : Int)
    · rw [if_pos c2, W_big q s (by omega)]
    · rw [if_neg c2, if_pos (by omega), if_pos (by omega)]
      obtain ⟨j, rfl⟩ : ∃ j : Nat, s = (j : Int) := ⟨s.toNat, by omega⟩
      congr 1
      exact tab_rd (by omega)
theorem pow10_pos (k : Nat) : 0 < (10 : Nat) ^ k := Nat.pow_pos (by omega)

/-! ### below, ofSum: counted by cnt -/
theorem cnt_full (p : Nat) (s : Int) : cnt s (10 ^ p) = W p s := by
  have h := cnt_block p s 0
  rw [Nat.mul_zero, Nat.zero_add, Nat.mul_one, ds_small (by omega)] at h
  simp only [cnt] at h
  have : s - ((0 : Nat) : Int) = s := by omega
  rw [this] at h; omega
theorem pdiv (n i : Nat) (hi : i < 13) : n / 10 ^ (13 - (i + 1)) = 10 * (n / 10 ^ (13 - i)) + n / 10 ^ (12 - i) % 10 := by
  rw [show 13 - i = (12 - i) + 1 by omega, show 13 - (i + 1) = 12 - i by omega, Nat.pow_succ, ← Nat.div_div_eq_div_mul]
  omega
theorem ibelow_l1 (n : Nat) (hn : n < 10 ^ 13) (s : Int) (hs0 : 0 ≤ s) (hs : s ≤ 9223372036854775807) (i : Nat) (hi : i < 13) (r : Int)
    (h : Ev (fun k => impl_below.l0 k s ⟨(pad 13 n).toArray⟩ (cnt s (10 ^ (13 - (i + 1)) * (n / 10 ^ (13 - (i + 1))))) 13 (((i + 1 : Nat)) : Int)) r) :
    ∀ (e d : Nat), d + e = n / 10 ^ (12 - i) % 10 →
      Ev (fun k => impl_below.l1 k s ⟨(pad 13 n).toArray⟩ (cnt s (10 ^ (12 - i) * (10 * (n / 10 ^ (13 - i)) + d))) (i : Int) (wl (12 - i)) (48 + (d : Int)) 13 (i : Int)) r := by
  have hsz : (⟨(pad 13 n).toArray⟩ : ByteArray).size = 13 := by rw [mk_size, pad_length]
  have hl : (⟨(pad 13 n).toArray⟩ : ByteArray).data.toList = pad 13 n := list_of _
  have hlt : i < (⟨(pad 13 n).toArray⟩ : ByteArray).data.toList.length := by rw [hl, pad_length]; exact hi
  have ht : n / 10 ^ (12 - i) % 10 < 10 := Nat.mod_lt _ (by omega)
  have hbt : bt ⟨(pad 13 n).toArray⟩ (i : Int) = 48 + ((n / 10 ^ (12 - i) % 10 : Nat) : Int) := by
    rw [bt_get _ i hlt]
    have : (⟨(pad 13 n).toArray⟩ : ByteArray).data.toList[i] = dch (n / 10 ^ (12 - i) % 10) := by
      simp only [hl]
      exact pad_get 13 n i (by rw [pad_length]; exact hi)
    rw [this, dch_nat ht]; omega
  have hpre : (((⟨(pad 13 n).toArray⟩ : ByteArray).extract 0 i).data.toList) = pad i (n / 10 ^ (13 - i)) := by
    rw [take_list _ i (by omega), hl]
    have := pad_take i (13 - i) n
    rw [show i + (13 - i) = 13 by omega] at this
    exact this
  have hq : n / 10 ^ (13 - i) < 10 ^ i := by
    rw [Nat.div_lt_iff_lt_mul (pow10_pos _), ← Nat.pow_add, show i + (13 - i) = 13 by omega]; exact hn
  have hsum : Ev (fun k => impl_sumOf.f k ((⟨(pad 13 n).toArray⟩ : ByteArray).extract 0 i)) (ds (n / 10 ^ (13 - i))) := by
    have he := isumOf_ev ((⟨(pad 13 n).toArray⟩ : ByteArray).extract 0 i) (by rw [← size_len, hpre, pad_length]; omega)
    rw [hpre, lsum_pad i _ hq] at he
    exact he
  have hds0 := ds_nonneg (n / 10 ^ (13 - i))
  have hds1 := ds_le i _ hq
  intro e
  induction e with
  | zero =>
    intro d hd
    refine ev_succ ?_
    simp only [impl_below.l1]
    rw [hsz, hbt]
    refine ev_pos (by omega) (ev_pos (by omega) (ev_neg (by omega) ?_))
    have e1 : (10 : Nat) ^ (12 - i) * (10 * (n / 10 ^ (13 - i)) + d) = 10 ^ (13 - (i + 1)) * (n / 10 ^ (13 - (i + 1))) := by
      rw [pdiv n i hi, show 13 - (i + 1) = 12 - i by omega, show d = n / 10 ^ (12 - i) % 10 by omega]
    rw [e1, wrap_nat (by omega)]
    exact h
  | succ e ih =>
    intro d hd
    refine ev_succ ?_
    simp only [impl_below.l1]
    rw [hsz, hbt]
    refine ev_pos (by omega) (ev_pos (by omega) (ev_pos (by omega) (ev_pos (by omega) ?_)))
    rw [Int.toNat_natCast]
    refine Ev.bind hsum ?_
    have e2 : ((48 + (d : Int)) - 48) % 256 = d := by omega
    have e3 : wrap64 (wrap64 (s - ds (n / 10 ^ (13 - i))) - d) = s - ds (n / 10 ^ (13 - i)) - d := by
      rw [wrap_of (x := s - ds (n / 10 ^ (13 - i))) (by omega) (by omega), wrap_of (by omega) (by omega)]
    rw [e2, e3]
    refine ev_bind (at_wl (12 - i) (by omega) _) ?_
    have hb := cnt_block (12 - i) s (10 * (n / 10 ^ (13 - i)) + d)
    rw [ds_cons _ d (by omega)] at hb
    have e4 : s - (ds (n / 10 ^ (13 - i)) + (d : Int)) = s - ds (n / 10 ^ (13 - i)) - d := by omega
    rw [e4] at hb
    have hc0 := cnt_nonneg s (10 ^ (12 - i) * (10 * (n / 10 ^ (13 - i)) + d))
    have hle : 10 ^ (12 - i) * (10 * (n / 10 ^ (13 - i)) + d + 1) ≤ 10 ^ 13 := by
      have h1 : 10 * (n / 10 ^ (13 - i)) + d + 1 ≤ 10 ^ (i + 1) := by rw [Nat.pow_succ]; omega
      have h2 := Nat.mul_le_mul_left (10 ^ (12 - i)) h1
      rw [← Nat.pow_add, show 12 - i + (i + 1) = 13 by omega] at h2
      exact h2
    have hc1 := cnt_le s (10 ^ (12 - i) * (10 * (n / 10 ^ (13 - i)) + d + 1))
    have e5 : wrap64 (cnt s (10 ^ (12 - i) * (10 * (n / 10 ^ (13 - i)) + d)) + W (12 - i) (s - ds (n / 10 ^ (13 - i)) - d)) = cnt s (10 ^ (12 - i) * (10 * (n / 10 ^ (13 - i)) + (d + 1))) := by
      rw [← hb, ← Nat.add_assoc]
      refine wrap_of ?_ ?_
      · rw [hb]; have := W_nonneg (12 - i) (s - ds (n / 10 ^ (13 - i)) - d); omega
      · omega
    rw [e5]
    have e6 : (48 + (d : Int) + 1) % 256 = 48 + ((d + 1 : Nat) : Int) := by omega
    rw [e6]
    exact ih (d + 1) (by omega)
theorem ibelow_l0 (n : Nat) (hn : n < 10 ^ 13) (s : Int) (hs0 : 0 ≤ s) (hs : s ≤ 9223372036854775807) : ∀ (e i : Nat), i + e = 13 →
    Ev (fun k => impl_below.l0 k s ⟨(pad 13 n).toArray⟩ (cnt s (10 ^ (13 - i) * (n / 10 ^ (13 - i)))) 13 (i : Int)) (cnt s n) := by
  intro e
  induction e with
  | zero =>
    intro i hi
    refine ev_succ ?_
    simp only [impl_below.l0]
    have : i = 13 := by omega
    subst this
    exact ev_neg (by omega) (ev_eq fun _ => by simp)
  | succ e ih =>
    intro i hi
    refine ev_succ ?_
    simp only [impl_below.l0]
    refine ev_pos (by omega) ?_
    have e1 : wrap64 (12 - (i : Int)) = ((12 - i : Nat) : Int) := by rw [wrap_of (by omega) (by omega)]; omega
    rw [e1]
    refine Ev.bind (iways_ev (12 - i) (by omega)) ?_
    have h := ibelow_l1 n hn s hs0 hs i (by omega) (cnt s n) (ih (i + 1) (by omega)) (n / 10 ^ (12 - i) % 10) 0 (by omega)
    have e2 : (10 : Nat) ^ (12 - i) * (10 * (n / 10 ^ (13 - i)) + 0) = 10 ^ (13 - i) * (n / 10 ^ (13 - i)) := by
      rw [Nat.add_zero, ← Nat.mul_assoc, ← Nat.pow_succ, show (12 - i).succ = 13 - i by omega]
    rw [e2] at h
    exact h
theorem ibelow_ev (n : Nat) (hn : n < 10 ^ 13) (s : Int) (hs0 : 0 ≤ s) (hs : s ≤ 9223372036854775807) : Ev (fun k => impl_below.f k (n : Int) s) (cnt s n) := by
  unfold impl_below.f
  refine Ev.bind (ipadded_ev n 13 (by omega) hn (by omega)) ?_
  rw [show ((⟨(pad 13 n).toArray⟩ : ByteArray).size : Int) = 13 by rw [mk_size, pad_length]; rfl]
  have h := ibelow_l0 n hn s hs0 hs 13 0 (by omega)
  have e : n / 10 ^ (13 - 0) = 0 := Nat.div_eq_of_lt hn
  rw [e, Nat.mul_zero] at h
  exact h
theorem div_lt10 (m i : Nat) (hm : m < 10 ^ 13) (hi : i ≤ 13) : m / 10 ^ (13 - i) < 10 ^ i := by
  rw [Nat.div_lt_iff_lt_mul (pow10_pos _), ← Nat.pow_add, show i + (13 - i) = 13 by omega]; exact hm
theorem iofSum_l1 (m : Nat) (hm : m < 10 ^ 13) (i : Nat) (hi : i < 13) (r : Int × Bool)
    (h : Ev (fun k => impl_ofSum.l0 k (ds m - ds (m / 10 ^ (12 - i))) (cnt (ds m) m - cnt (ds m) (10 ^ (12 - i) * (m / 10 ^ (12 - i)))) ((m / 10 ^ (12 - i) : Nat) : Int) ((i + 1 : Nat) : Int)) r) :
    ∀ (e d : Nat), d + e = m / 10 ^ (12 - i) % 10 →
      Ev (fun k => impl_ofSum.l1 k (ds m - ds (m / 10 ^ (13 - i))) (cnt (ds m) m - cnt (ds m) (10 ^ (12 - i) * (10 * (m / 10 ^ (13 - i)) + d))) ((m / 10 ^ (13 - i) : Nat) : Int) (wl (12 - i)) (i : Int) (d : Int)) r := by
  have ht : m / 10 ^ (12 - i) % 10 < 10 := Nat.mod_lt _ (by omega)
  have hq := div_lt10 m i hm (by omega)
  have hds0 := ds_nonneg (m / 10 ^ (13 - i))
  have hds1 := ds_le i _ hq
  have hm0 := ds_nonneg m
  have hm1 := ds_le 13 m hm
  have hqq : m / 10 ^ (13 - i) ≤ 10000000000000 := by have := Nat.div_le_self m (10 ^ (13 - i)); omega
  have hpd := pdiv m i hi
  have hcm := cnt_le (ds m) m
  have hcm0 := cnt_nonneg (ds m) m
  have hdiv : m / 10 ^ (12 - i) = 10 * (m / 10 ^ (13 - i)) + m / 10 ^ (12 - i) % 10 := by rw [← hpd, show 13 - (i + 1) = 12 - i by omega]
  intro e
  induction e with
  | zero =>
    intro d hd
    refine ev_succ ?_
    simp only [impl_ofSum.l1]
    refine ev_pos (by omega) ?_
    have e3 : wrap64 (ds m - ds (m / 10 ^ (13 - i)) - d) = ds m - ds (m / 10 ^ (13 - i)) - d := wrap_of (by omega) (by omega)
    rw [e3]
    refine ev_bind (at_wl (12 - i) (by omega) _) ?_
    have hb := cnt_block (12 - i) (ds m) (10 * (m / 10 ^ (13 - i)) + d)
    rw [ds_cons _ d (by omega)] at hb
    have e4 : ds m - (ds (m / 10 ^ (13 - i)) + (d : Int)) = ds m - ds (m / 10 ^ (13 - i)) - d := by omega
    rw [e4] at hb
    have hlt : m < 10 ^ (12 - i) * (10 * (m / 10 ^ (13 - i)) + d + 1) := by
      have hd1 : 10 * (m / 10 ^ (13 - i)) + d = m / 10 ^ (12 - i) := by omega
      rw [hd1]
      exact Nat.lt_mul_div_succ m (pow10_pos _)
    have hmono := cnt_mono (ds m) (m := m + 1) hlt
    have hhit : cnt (ds m) (m + 1) = cnt (ds m) m + 1 := cnt_hit rfl
    rw [hhit] at hmono
    refine ev_pos (by omega) ?_
    have hd1 : 10 * (m / 10 ^ (13 - i)) + d = m / 10 ^ (12 - i) := by omega
    have e7 := ds_cons (m / 10 ^ (13 - i)) d (by omega)
    rw [hd1] at e7 ⊢
    have e6 : wrap64 (wrap64 (10 * ((m / 10 ^ (13 - i) : Nat) : Int)) + d) = ((m / 10 ^ (12 - i) : Nat) : Int) := by
      rw [wrap_of (x := 10 * ((m / 10 ^ (13 - i) : Nat) : Int)) (by omega) (by omega), wrap_of (by omega) (by omega)]; omega
    have e8 : ds m - ds (m / 10 ^ (13 - i)) - d = ds m - ds (m / 10 ^ (12 - i)) := by omega
    rw [e6, e8, wrap_nat (i := i) (by omega)]
    exact h
  | succ e ih =>
    intro d hd
    refine ev_succ ?_
    simp only [impl_ofSum.l1]
    refine ev_pos (by omega) ?_
    have e3 : wrap64 (ds m - ds (m / 10 ^ (13 - i)) - d) = ds m - ds (m / 10 ^ (13 - i)) - d := wrap_of (by omega) (by omega)
    rw [e3]
    refine ev_bind (at_wl (12 - i) (by omega) _) ?_
    have hb := cnt_block (12 - i) (ds m) (10 * (m / 10 ^ (13 - i)) + d)
    rw [ds_cons _ d (by omega)] at hb
    have e4 : ds m - (ds (m / 10 ^ (13 - i)) + (d : Int)) = ds m - ds (m / 10 ^ (13 - i)) - d := by omega
    rw [e4] at hb
    have hle : 10 ^ (12 - i) * (10 * (m / 10 ^ (13 - i)) + d + 1) ≤ m := by
      refine Nat.le_trans (Nat.mul_le_mul_left _ (show 10 * (m / 10 ^ (13 - i)) + d + 1 ≤ m / 10 ^ (12 - i) by omega)) (Nat.mul_div_le m _)
    have hmono := cnt_mono (ds m) hle
    have hw0 := W_nonneg (12 - i) (ds m - ds (m / 10 ^ (13 - i)) - d)
    have hc0 := cnt_nonneg (ds m) (10 ^ (12 - i) * (10 * (m / 10 ^ (13 - i)) + d))
    refine ev_neg (by omega) ?_
    have e5 : wrap64 (cnt (ds m) m - cnt (ds m) (10 ^ (12 - i) * (10 * (m / 10 ^ (13 - i)) + d)) - W (12 - i) (ds m - ds (m / 10 ^ (13 - i)) - d)) = cnt (ds m) m - cnt (ds m) (10 ^ (12 - i) * (10 * (m / 10 ^ (13 - i)) + (d + 1))) := by
      rw [wrap_of (by omega) (by omega), ← Nat.add_assoc, hb]; omega
    rw [e5, wrap_nat (by omega)]
    exact ih (d + 1) (by omega)
theorem iofSum_l0 (m : Nat) (hm : m < 10 ^ 13) : ∀ (e i : Nat), i + e = 13 →
    Ev (fun k => impl_ofSum.l0 k (ds m - ds (m / 10 ^ (13 - i))) (cnt (ds m) m - cnt (ds m) (10 ^ (13 - i) * (m / 10 ^ (13 - i)))) ((m / 10 ^ (13 - i) : Nat) : Int) (i : Int)) ((m : Int), decide ((m : Int) ≤ 1000000000000)) := by
  intro e
  induction e with
  | zero =>
    intro i hi
    refine ev_succ ?_
    simp only [impl_ofSum.l0]
    have : i = 13 := by omega
    subst this
    exact ev_neg (by omega) (ev_eq fun _ => by simp)
  | succ e ih =>
    intro i hi
    refine ev_succ ?_
    simp only [impl_ofSum.l0]
    refine ev_pos (by omega) ?_
    have e1 : wrap64 (12 - (i : Int)) = ((12 - i : Nat) : Int) := by rw [wrap_of (by omega) (by omega)]; omega
    rw [e1]
    refine Ev.bind (iways_ev (12 - i) (by omega)) ?_
    have hi2 := ih (i + 1) (by omega)
    have e12 : 13 - (i + 1) = 12 - i := by omega
    rw [e12] at hi2
    have h := iofSum_l1 m hm i (by omega) _ hi2 (m / 10 ^ (12 - i) % 10) 0 (by omega)
    have e2 : (10 : Nat) ^ (12 - i) * (10 * (m / 10 ^ (13 - i)) + 0) = 10 ^ (13 - i) * (m / 10 ^ (13 - i)) := by
      rw [Nat.add_zero, ← Nat.mul_assoc, ← Nat.pow_succ, show (12 - i).succ = 13 - i by omega]
    rw [e2] at h
    exact h
/-- the number with a sum before which just so many lie -/
theorem iofSum_hit (m : Nat) (hm : m < 10 ^ 13) : Ev (fun k => impl_ofSum.f k (ds m) (cnt (ds m) m)) ((m : Int), decide ((m : Int) ≤ 1000000000000)) := by
  unfold impl_ofSum.f
  have h0 := cnt_nonneg (ds m) m
  refine ev_neg (by omega) (Ev.bind (iways_ev 13 (by omega)) (ev_bind (at_wl 13 (by omega) _) ?_))
  have hf := cnt_full 13 (ds m)
  have hmono := cnt_mono (ds m) (m := m + 1) (n := 10 ^ 13) hm
  have hhit : cnt (ds m) (m + 1) = cnt (ds m) m + 1 := cnt_hit rfl
  rw [hhit] at hmono
  rw [decide_eq_false (by omega)]
  refine ev_succ ?_
  simp only [impl_ofSum.j0]
  refine ev_neg (by decide) ?_
  have h := iofSum_l0 m hm 13 0 (by omega)
  have e : m / 10 ^ (13 - 0) = 0 := Nat.div_eq_of_lt hm
  rw [e, Nat.mul_zero, ds_small (n := 0) (by omega)] at h
  simp only [cnt] at h
  have e1 : ds m - ((0 : Nat) : Int) = ds m := by omega
  have e2 : cnt (ds m) m - 0 = cnt (ds m) m := by omega
  rw [e1, e2] at h
  exact h
theorem iofSum_neg (s r : Int) (h : r < 0) : Ev (fun k => impl_ofSum.f k s r) (0, false) := by
  unfold impl_ofSum.f
  refine ev_pos h (ev_succ ?_)
  simp only [impl_ofSum.j0]
  exact ev_pos trivial (ev_eq fun _ => rfl)
theorem iofSum_big (s r : Int) (h0 : 0 ≤ r) (h : W 13 s ≤ r) : Ev (fun k => impl_ofSum.f k s r) (0, false) := by
  unfold impl_ofSum.f
  refine ev_neg (by omega) (Ev.bind (iways_ev 13 (by omega)) (ev_bind (at_wl 13 (by omega) _) ?_))
  rw [decide_eq_true (by omega)]
  refine ev_succ ?_
  simp only [impl_ofSum.j0]
  exact ev_pos trivial (ev_eq fun _ => rfl)

/-! ### rounds that serve a whole range -/
theorem ev_unif {α : Type} (g : Nat → Int → Option α) (q : Int → α) (lo : Int) : ∀ (m : Nat), (∀ x, lo ≤ x → x < lo + m → Ev (fun k => g k x) (q x)) → ∃ K, ∀ k, K ≤ k → ∀ x, lo ≤ x → x < lo + m → g k x = some (q x) := by
  intro m
  induction m with
  | zero => intro _; exact ⟨0, fun k _ x h1 h2 => by omega⟩
  | succ m ih =>
    intro h
    obtain ⟨K1, h1⟩ := ih (fun x a b => h x a (by omega))
    obtain ⟨K2, h2⟩ := h (lo + m) (by omega) (by omega)
    refine ⟨max K1 K2, fun k hk x a b => ?_⟩
    by_cases e : x = lo + m
    · subst e; exact h2 k (by omega)
    · exact h1 k (by omega) x a (by omega)

/-! ### the least number of a test that stays true -/
theorem go_find (p : Int → Option Bool) (q : Int → Bool) (hm : ∀ x y, x ≤ y → q x = true → q y = true) : ∀ (c : Nat) (lo hi : Int), 0 ≤ lo → hi ≤ 4000000000000 → lo ≤ hi → hi - lo < 2 ^ c → (∀ x, lo ≤ x → x < hi → p x = some (q x)) →
    ∃ r, impl_least.go p (c + 1) lo hi = some r ∧ lo ≤ r ∧ r ≤ hi ∧ (∀ x, lo ≤ x → x < r → q x = false) ∧ (r < hi → q r = true) := by
  intro c
  induction c with
  | zero =>
    intro lo hi h0 h4 hle hd hp
    have hd1 : hi - lo < 1 := hd
    refine ⟨lo, ?_, Int.le_refl _, hle, fun x h1 h2 => by omega, fun h => by omega⟩
    rw [impl_least.go, if_neg (by omega)]
  | succ c ih =>
    intro lo hi h0 h4 hle hd hp
    rw [Int.pow_succ] at hd
    by_cases hlt : lo < hi
    · have em : wrap64 (Int.tdiv (wrap64 (lo + hi)) 2) = (lo + hi) / 2 := by
        rw [wrap_of (x := lo + hi) (by omega) (by omega), Int.tdiv_eq_ediv_of_nonneg (by omega), wrap_of (by omega) (by omega)]
      obtain ⟨m, hmd⟩ : ∃ m, m = (lo + hi) / 2 := ⟨_, rfl⟩
      have hpm := hp m (by omega) (by omega)
      cases hq : q m with
      | true =>
        obtain ⟨r, h1, h2, h3, h5, h6⟩ := ih lo m h0 (by omega) (by omega) (by omega) (fun x a b => hp x a (by omega))
        refine ⟨r, ?_, h2, by omega, h5, fun h => ?_⟩
        · rw [impl_least.go, if_pos hlt, em, ← hmd, hpm, Option.bind_some, if_pos hq]; exact h1
        · by_cases e : r = m
          · rw [e]; exact hq
          · exact h6 (by omega)
      | false =>
        obtain ⟨r, h1, h2, h3, h5, h6⟩ := ih (m + 1) hi (by omega) h4 (by omega) (by omega) (fun x a b => hp x (by omega) b)
        refine ⟨r, ?_, by omega, h3, fun x a b => ?_, h6⟩
        · rw [impl_least.go, if_pos hlt, em, ← hmd, hpm, Option.bind_some, if_neg (by rw [hq]; decide), wrap_of (x := m + 1) (by omega) (by omega)]; exact h1
        · by_cases e : m + 1 ≤ x
          · exact h5 x e b
          · cases hx : q x with
            | false => rfl
            | true => rw [hm x m (by omega) hx] at hq; cases hq
    · refine ⟨lo, ?_, Int.le_refl _, hle, fun x h1 h2 => by omega, fun h => by omega⟩
      rw [impl_least.go, if_neg hlt]
theorem least_uniq {q : Int → Bool} {lo hi r s : Int} (h1 : lo ≤ r) (_h2 : r ≤ hi) (h3 : ∀ x, lo ≤ x → x < r → q x = false) (h4 : r < hi → q r = true) (g1 : lo ≤ s) (_g2 : s ≤ hi) (g3 : ∀ x, lo ≤ x → x < s → q x = false) (g4 : s < hi → q s = true) : r = s := by
  rcases Int.lt_trichotomy r s with h | h | h
  · have := g3 r h1 h; rw [h4 (by omega)] at this; cases this
  · exact h
  · have := h3 s g1 h; rw [g4 (by omega)] at this; cases this
theorem least_ev (g : Nat → Int → Option Bool) (q : Int → Bool) (hm : ∀ x y, x ≤ y → q x = true → q y = true) (lo hi : Int) (h0 : 0 ≤ lo) (h4 : hi ≤ 1000000000001) (hle : lo ≤ hi) (hp : ∀ x, lo ≤ x → x < hi → Ev (fun k => g k x) (q x)) :
    ∃ r, Ev (fun k => impl_least.go (g k) k lo hi) r ∧ lo ≤ r ∧ r ≤ hi ∧ (∀ x, lo ≤ x → x < r → q x = false) ∧ (r < hi → q r = true) := by
  obtain ⟨K, hK⟩ := ev_unif g q lo (hi - lo).toNat (fun x a b => hp x a (by omega))
  have run : ∀ k, max K 42 ≤ k → ∃ r, impl_least.go (g k) k lo hi = some r ∧ lo ≤ r ∧ r ≤ hi ∧ (∀ x, lo ≤ x → x < r → q x = false) ∧ (r < hi → q r = true) := by
    intro k hk
    obtain ⟨c, rfl⟩ : ∃ c, k = c + 1 := ⟨k - 1, by omega⟩
    refine go_find (g (c + 1)) q hm c lo hi h0 (by omega) hle ?_ (fun x a b => hK _ (by omega) x a (by omega))
    have h41 : (2 : Int) ^ 41 ≤ 2 ^ c := by
      have : (2 ^ 41 : Nat) ≤ 2 ^ c := Nat.pow_le_pow_right (by decide) (by omega)
      have h2 : ((2 ^ 41 : Nat) : Int) ≤ ((2 ^ c : Nat) : Int) := by omega
      simpa using h2
    have e : (2 : Int) ^ 41 = 2199023255552 := by decide
    omega
  obtain ⟨r, _, h1, h2, h3, h5⟩ := run (max K 42) (Nat.le_refl _)
  refine ⟨r, ev_from (max K 42) (fun k hk => ?_), h1, h2, h3, h5⟩
  obtain ⟨s, hs, g1, g2, g3, g5⟩ := run k hk
  rw [hs, least_uniq g1 g2 g3 g5 h1 h2 h3 h5]

/-! ### what is left of a number when its digits are taken together again and again -/
def rt (f : Nat → Nat) (n : Nat) : Nat × Nat := if h : 10 ≤ n ∧ f n < n then ((rt f (f n)).1, (rt f (f n)).2 + 1) else (n, 0)
termination_by n
decreasing_by exact h.2
theorem rt_small (f : Nat → Nat) {n : Nat} (h : n < 10) : rt f n = (n, 0) := by rw [rt, dif_neg (by omega)]
theorem rt_step (f : Nat → Nat) {n : Nat} (h : 10 ≤ n) (hf : f n < n) : rt f n = ((rt f (f n)).1, (rt f (f n)).2 + 1) := by rw [rt, dif_pos ⟨h, hf⟩]
theorem rt_facts (f : Nat → Nat) (hf : ∀ n, 10 ≤ n → f n < n) (n : Nat) : (rt f n).1 ≤ 9 ∧ (rt f n).2 ≤ n ∧ ((rt f n).2 = 0 ↔ n < 10) := by
  induction n using Nat.strongRecOn with
  | _ n ih =>
    by_cases h : n < 10
    · rw [rt_small f h]; simp; omega
    · have hl := hf n (by omega)
      obtain ⟨h1, h2, _⟩ := ih (f n) hl
      rw [rt_step f (by omega) hl]
      dsimp only
      omega
theorem rt_mod (f : Nat → Nat) (hf : ∀ n, 10 ≤ n → f n < n) (hm : ∀ n, f n % 9 = n % 9) (hp : ∀ n, 0 < n → 0 < f n) (n : Nat) : (rt f n).1 % 9 = n % 9 ∧ ((rt f n).1 = 0 ↔ n = 0) := by
  induction n using Nat.strongRecOn with
  | _ n ih =>
    by_cases h : n < 10
    · rw [rt_small f h]; simp
    · have hl := hf n (by omega)
      obtain ⟨h1, h2⟩ := ih (f n) hl
      rw [rt_step f (by omega) hl]
      have := hm n
      have := hp n (by omega)
      dsimp only
      omega
/-- the digit sum, a Nat -/
def dsn (n : Nat) : Nat := (ds n).toNat
theorem dsn_eq (n : Nat) : ((dsn n : Nat) : Int) = ds n := by unfold dsn; have := ds_nonneg n; omega
theorem ds_mod (n : Nat) : ds n % 9 = (n : Int) % 9 := by
  induction n using Nat.strongRecOn with
  | _ n ih =>
    by_cases h : n < 10
    · rw [ds_small h]
    · rw [ds_step]; have := ih (n / 10) (by omega); omega
theorem ds_less (n : Nat) (h : 10 ≤ n) : ds n < n := by
  have hle : ∀ m : Nat, ds m ≤ m := by
    intro m
    induction m using Nat.strongRecOn with
    | _ m ih =>
      by_cases h : m < 10
      · rw [ds_small h]; omega
      · rw [ds_step]; have := ih (m / 10) (by omega); omega
  rw [ds_step]; have := hle (n / 10); omega
/-- the product of the digits -/
def pr (n : Nat) : Nat := if h : n < 10 then n else n % 10 * pr (n / 10)
termination_by n
decreasing_by omega
theorem pr_small {n : Nat} (h : n < 10) : pr n = n := by rw [pr, dif_pos h]
theorem pr_step {n : Nat} (h : 10 ≤ n) : pr n = n % 10 * pr (n / 10) := by rw [pr, dif_neg (by omega)]
theorem pr_le (n : Nat) : pr n ≤ n := by
  induction n using Nat.strongRecOn with
  | _ n ih =>
    by_cases h : n < 10
    · rw [pr_small h]; omega
    · rw [pr_step (by omega)]
      have h1 := ih (n / 10) (by omega)
      have h2 := Nat.mul_le_mul (show n % 10 ≤ 9 by omega) h1
      omega
theorem pr_lt (n : Nat) (h : 10 ≤ n) : pr n < n := by
  rw [pr_step h]
  have h1 := pr_le (n / 10)
  have h2 := Nat.mul_le_mul (show n % 10 ≤ 9 by omega) h1
  omega
/-- among the numbers with a sum there is one with each rank -/
theorem cnt_find (s : Int) (N : Nat) (r : Int) (h0 : 0 ≤ r) (h : r < cnt s N) : ∃ m, m < N ∧ ds m = s ∧ cnt s m = r := by
  induction N with
  | zero => simp only [cnt] at h; omega
  | succ N ih =>
    by_cases c : r < cnt s N
    · obtain ⟨m, h1, h2, h3⟩ := ih c; exact ⟨m, by omega, h2, h3⟩
    · simp only [cnt] at h
      by_cases e : ds N = s
      · rw [if_pos e] at h; exact ⟨N, by omega, e, by omega⟩
      · rw [if_neg e] at h; omega

/-! ### numbers without a digit -/
def hasD (d n : Nat) : Bool := if h : n < 10 then n == d else (n % 10 == d) || hasD d (n / 10)
termination_by n
decreasing_by omega
theorem hasD_small {d n : Nat} (h : n < 10) : hasD d n = (n == d) := by rw [hasD, dif_pos h]
theorem hasD_cons {d : Nat} (a e : Nat) (ha : 0 < a) (he : e < 10) : hasD d (10 * a + e) = ((e == d) || hasD d a) := by
  rw [hasD, dif_neg (by omega), show (10 * a + e) % 10 = e by omega, show (10 * a + e) / 10 = a by omega]
/-- how many numbers from 1 up to less than n are without a digit -/
def wb (d : Nat) : Nat → Int
  | 0 => 0
  | n + 1 => wb d n + if n = 0 ∨ hasD d n = true then 0 else 1
theorem wb_one (d : Nat) : wb d 1 = 0 := by simp [wb]
theorem wb_hit {d n : Nat} (h0 : 0 < n) (h : hasD d n = false) : wb d (n + 1) = wb d n + 1 := by
  simp only [wb]; rw [if_neg (by rw [h]; simp; omega)]
theorem wb_miss {d n : Nat} (h : hasD d n = true) : wb d (n + 1) = wb d n := by
  simp only [wb]; rw [if_pos (.inr h)]; omega
theorem wb_mono (d : Nat) {m n : Nat} (h : m ≤ n) : wb d m ≤ wb d n := by
  induction n with
  | zero => have : m = 0 := by omega
            subst this; exact Int.le_refl _
  | succ n ih =>
    by_cases e : m = n + 1
    · subst e; exact Int.le_refl _
    · have := ih (by omega); simp only [wb]; split <;> omega
theorem wb_nonneg (d n : Nat) : 0 ≤ wb d n := wb_mono d (m := 0) (Nat.zero_le n)
theorem wb_le (d n : Nat) : wb d (n + 1) ≤ n := by
  induction n with
  | zero => rw [wb_one]; simp
  | succ n ih => rw [wb]; split <;> omega
theorem wb_lt (d n : Nat) : wb d n ≤ n := by
  cases n with
  | zero => simp [wb]
  | succ n => have := wb_le d n; omega
theorem wb_block (k : Nat) (d : Nat) (hd : d < 10) : ∀ a : Nat, 0 < a → wb d (10 ^ k * (a + 1)) = wb d (10 ^ k * a) + if hasD d a = true then 0 else 9 ^ k := by
  induction k with
  | zero =>
    intro a ha
    rw [Nat.pow_zero, Nat.one_mul, Nat.one_mul]
    simp only [wb]
    by_cases h : hasD d a = true
    · rw [if_pos (.inr h), if_pos h]
    · rw [if_neg (by simp [h]; omega), if_neg h]; simp
  | succ k ih =>
    intro a ha
    have st : ∀ e, e < 10 → wb d (10 ^ k * (10 * a + e + 1)) = wb d (10 ^ k * (10 * a + e)) + if ((e == d) || hasD d a) = true then 0 else 9 ^ k := fun e he => by
      rw [ih (10 * a + e) (by omega), hasD_cons a e ha he]
    have e0 : 10 ^ (k + 1) * a = 10 ^ k * (10 * a + 0) := by rw [Nat.pow_succ, Nat.mul_assoc]; rfl
    have e1 : 10 ^ (k + 1) * (a + 1) = 10 ^ k * (10 * a + 9 + 1) := by rw [Nat.pow_succ, Nat.mul_assoc]; congr 1
    rw [e0, e1, st 9 (by omega), st 8 (by omega), st 7 (by omega), st 6 (by omega), st 5 (by omega), st 4 (by omega), st 3 (by omega), st 2 (by omega), st 1 (by omega), st 0 (by omega)]
    by_cases h : hasD d a = true
    · simp [h]
    · rw [Int.pow_succ]
      generalize (9 : Int) ^ k = z
      have hcase : d = 0 ∨ d = 1 ∨ d = 2 ∨ d = 3 ∨ d = 4 ∨ d = 5 ∨ d = 6 ∨ d = 7 ∨ d = 8 ∨ d = 9 := by omega
      rcases hcase with rfl | rfl | rfl | rfl | rfl | rfl | rfl | rfl | rfl | rfl <;> simp [h] <;> omega
/-- those with fewer digits -/
def fewer (d : Nat) : Nat → Int
  | 0 => 0
  | k + 1 => fewer d k + (if d = 0 then 9 else 8) * 9 ^ k
theorem fewer_eq (d : Nat) (hd : d < 10) (k : Nat) : wb d (10 ^ k) = fewer d k := by
  induction k with
  | zero => rw [Nat.pow_zero, wb_one]; rfl
  | succ k ih =>
    have st : ∀ e, 0 < e → e < 10 → wb d (10 ^ k * (e + 1)) = wb d (10 ^ k * e) + if (e == d) = true then 0 else 9 ^ k := fun e h0 he => by
      rw [wb_block k d hd e h0, hasD_small he]
    have e1 : 10 ^ (k + 1) = 10 ^ k * (9 + 1) := by rw [Nat.pow_succ]
    rw [e1, st 9 (by omega) (by omega), st 8 (by omega) (by omega), st 7 (by omega) (by omega), st 6 (by omega) (by omega), st 5 (by omega) (by omega), st 4 (by omega) (by omega), st 3 (by omega) (by omega), st 2 (by omega) (by omega), st 1 (by omega) (by omega), Nat.mul_one, ih, fewer]
    generalize (9 : Int) ^ k = z
    have hcase : d = 0 ∨ d = 1 ∨ d = 2 ∨ d = 3 ∨ d = 4 ∨ d = 5 ∨ d = 6 ∨ d = 7 ∨ d = 8 ∨ d = 9 := by omega
    rcases hcase with rfl | rfl | rfl | rfl | rfl | rfl | rfl | rfl | rfl | rfl <;> simp <;> omega
theorem fewer_pos (d : Nat) (h : d ≠ 0) (k : Nat) : fewer d k = 9 ^ k - 1 := by
  induction k with
  | zero => rfl
  | succ k ih => rw [fewer, ih, if_neg h, Int.pow_succ]; omega
theorem hasD_mul (k : Nat) {d b : Nat} (hb : 0 < b) (h : hasD d b = true) : ∀ x, x < 10 ^ k → hasD d (10 ^ k * b + x) = true := by
  induction k generalizing b with
  | zero => intro x hx; have : x = 0 := by simpa using hx
            subst this; simpa using h
  | succ k ih =>
    intro x hx
    have e : 10 ^ (k + 1) * b + x = 10 ^ k * (10 * b + x / 10 ^ k) + x % 10 ^ k := by
      have := Nat.div_add_mod x (10 ^ k)
      have h2 : 10 ^ k * (10 * b) = 10 ^ (k + 1) * b := by rw [← Nat.mul_assoc, ← Nat.pow_succ]
      rw [Nat.mul_add, h2]; omega
    have hq : x / 10 ^ k < 10 := by rw [Nat.div_lt_iff_lt_mul (Nat.pow_pos (by omega))]; rw [Nat.pow_succ] at hx; omega
    rw [e]
    exact ih (Nat.lt_of_lt_of_le (show 0 < 10 * b by omega) (Nat.le_add_right _ _)) (by rw [hasD_cons b _ hb hq, h]; simp) _ (Nat.mod_lt _ (Nat.pow_pos (by omega)))
theorem wb_flat (k : Nat) {d b : Nat} (hb : 0 < b) (h : hasD d b = true) : ∀ x, x ≤ 10 ^ k → wb d (10 ^ k * b + x) = wb d (10 ^ k * b) := by
  intro x
  induction x with
  | zero => intro _; rfl
  | succ x ih => intro hx; rw [← Nat.add_assoc, wb_miss (hasD_mul k hb h x (by omega)), ih (by omega)]
/-- n's first digits bear the digit: none from there on up to n is without it -/
theorem wb_stop {d n k : Nat} (hb : 0 < n / 10 ^ k) (h : hasD d (n / 10 ^ k) = true) : wb d (n + 1) = wb d (10 ^ k * (n / 10 ^ k)) := by
  have e := Nat.div_add_mod n (10 ^ k)
  have hlt := Nat.mod_lt n (Nat.pow_pos (n := k) (show 0 < 10 by omega))
  have := wb_flat k hb h (n % 10 ^ k + 1) (by omega)
  rw [← Nat.add_assoc, e] at this
  exact this

/-! ### the reference's counts of a digit sum -/
theorem dec_T (n : Nat) : (⟨(Lib.decDigits n).toArray⟩ : ByteArray) = mkT (Lib.nDigits n) n := by rw [dec_pad]
theorem diSum_ev (n : Nat) (h : n < 10 ^ 13) : Ev (fun k => spec_diSum.f k (n : Int)) (ds n) := by
  unfold spec_diSum.f
  refine Ev.bind (l1Num_ev n (by omega)) ?_
  rw [dec_T]
  have := nDig_le n 13 (by omega) h
  exact Ev.bind (sT_sum _ n (Lib.lt_pow_nDigits n) (by omega)) (ev_eq fun _ => rfl)
theorem pdivJ (n j i : Nat) (hi : i < j) : n / 10 ^ (j - (i + 1)) = 10 * (n / 10 ^ (j - i)) + n / 10 ^ (j - 1 - i) % 10 := by
  rw [show j - i = (j - 1 - i) + 1 by omega, show j - (i + 1) = j - 1 - i by omega, Nat.pow_succ, ← Nat.div_div_eq_div_mul]; omega
theorem pdivlt (n j i : Nat) (hn : n < 10 ^ j) (hi : i ≤ j) : n / 10 ^ (j - i) < 10 ^ i := by
  rw [Nat.div_lt_iff_lt_mul (pow10_pos _), ← Nat.pow_add, show i + (j - i) = j by omega]; exact hn
theorem sofS_l1 (n j : Nat) (hn : n < 10 ^ j) (hj : j ≤ 13) (s : Int) (hs0 : 0 ≤ s) (hs : s ≤ 9223372036854775807) (i : Nat) (hi : i < j) (r : Int)
    (h : Ev (fun k => spec_diOfSum.l0 k (n : Int) s (cnt s (10 ^ (j - (i + 1)) * (n / 10 ^ (j - (i + 1))))) (mkT j n) (mkT j n) (((i + 1 : Nat)) : Int)) r) :
    ∀ (e d : Nat), d + e = n / 10 ^ (j - 1 - i) % 10 →
      Ev (fun k => spec_diOfSum.l1 k (n : Int) s (cnt s (10 ^ (j - 1 - i) * (10 * (n / 10 ^ (j - i)) + d))) (mkT j n) (i : Int) (d : Int) (mkT j n) (i : Int)) r := by
  have ht : n / 10 ^ (j - 1 - i) % 10 < 10 := Nat.mod_lt _ (by omega)
  have hbt := T_bt j n i hi
  have hq := pdivlt n j i hn (by omega)
  have hds0 := ds_nonneg (n / 10 ^ (j - i))
  have hds1 := ds_le i _ hq
  have hsz := T_size j n
  intro e
  induction e with
  | zero =>
    intro d hd
    refine ev_succ ?_
    simp only [spec_diOfSum.l1]
    rw [hsz, hbt]
    refine ev_pos (by omega) (ev_pos (by omega) (ev_neg (by omega) ?_))
    have e1 : (10 : Nat) ^ (j - 1 - i) * (10 * (n / 10 ^ (j - i)) + d) = 10 ^ (j - (i + 1)) * (n / 10 ^ (j - (i + 1))) := by
      rw [pdivJ n j i hi, show j - (i + 1) = j - 1 - i by omega, show d = n / 10 ^ (j - 1 - i) % 10 by omega]
    rw [e1, wrap_nat (by omega)]
    exact h
  | succ e ih =>
    intro d hd
    refine ev_succ ?_
    simp only [spec_diOfSum.l1]
    rw [hsz, hbt]
    have ew : wrap64 (wrap64 ((j : Int) - 1) - (i : Int)) = ((j - 1 - i : Nat) : Int) := by
      rw [wrap_of (x := (j : Int) - 1) (by omega) (by omega), wrap_of (by omega) (by omega)]; omega
    rw [ew, Int.toNat_natCast, T_ext0 j n i (by omega)]
    refine ev_pos (by omega) (ev_pos (by omega) (ev_pos (by omega) (Ev.bind (sways_ev (j - 1 - i) (by omega)) (ev_pos (by omega) (Ev.bind (sT_sum i _ hq (by omega)) ?_)))))
    have e3 : wrap64 (wrap64 (s - ds (n / 10 ^ (j - i))) - d) = s - ds (n / 10 ^ (j - i)) - d := by
      rw [wrap_of (x := s - ds (n / 10 ^ (j - i))) (by omega) (by omega), wrap_of (by omega) (by omega)]
    rw [e3]
    refine ev_bind (tkOf_wl (j - 1 - i) (by omega) _) ?_
    have hb := cnt_block (j - 1 - i) s (10 * (n / 10 ^ (j - i)) + d)
    rw [ds_cons _ d (by omega)] at hb
    have e4 : s - (ds (n / 10 ^ (j - i)) + (d : Int)) = s - ds (n / 10 ^ (j - i)) - d := by omega
    rw [e4] at hb
    have hc0 := cnt_nonneg s (10 ^ (j - 1 - i) * (10 * (n / 10 ^ (j - i)) + d))
    have hle : 10 ^ (j - 1 - i) * (10 * (n / 10 ^ (j - i)) + d + 1) ≤ 10 ^ 13 := by
      have h1 : 10 * (n / 10 ^ (j - i)) + d + 1 ≤ 10 ^ (i + 1) := by rw [Nat.pow_succ]; omega
      have h2 := Nat.mul_le_mul_left (10 ^ (j - 1 - i)) h1
      rw [← Nat.pow_add, show j - 1 - i + (i + 1) = j by omega] at h2
      exact Nat.le_trans h2 (Nat.pow_le_pow_right (by omega) hj)
    have hc1 := cnt_le s (10 ^ (j - 1 - i) * (10 * (n / 10 ^ (j - i)) + d + 1))
    have e5 : wrap64 (cnt s (10 ^ (j - 1 - i) * (10 * (n / 10 ^ (j - i)) + d)) + W (j - 1 - i) (s - ds (n / 10 ^ (j - i)) - d)) = cnt s (10 ^ (j - 1 - i) * (10 * (n / 10 ^ (j - i)) + (d + 1))) := by
      rw [← hb, ← Nat.add_assoc]
      refine wrap_of ?_ ?_
      · rw [hb]; have := W_nonneg (j - 1 - i) (s - ds (n / 10 ^ (j - i)) - d); omega
      · omega
    rw [e5, wrap_nat (by omega)]
    exact ih (d + 1) (by omega)
theorem sofS_end (n j : Nat) (hn : n < 10 ^ j) (hj : j ≤ 13) (s : Int) : Ev (fun k => spec_diOfSum.l0 k (n : Int) s (cnt s n) (mkT j n) (mkT j n) (j : Int)) (cnt s (n + 1) - if s = 0 then 1 else 0) := by
  refine ev_succ ?_
  simp only [spec_diOfSum.l0]
  rw [T_size]
  have h13 : n < 10 ^ 13 := Nat.lt_of_lt_of_le hn (Nat.pow_le_pow_right (by omega) hj)
  have h0 := cnt_nonneg s n
  have h1 := cnt_le s n
  refine ev_neg (by omega) (Ev.bind (diSum_ev n h13) ?_)
  by_cases c : ds n = s
  · refine ev_pos c ?_
    rw [cnt_hit c, wrap_of (x := cnt s n + 1) (by omega) (by omega)]
    by_cases z : s = 0
    · refine ev_pos z (ev_eq fun _ => ?_); rw [if_pos z, wrap_of (by omega) (by omega)]
    · refine ev_neg z (ev_eq fun _ => ?_); rw [if_neg z]; congr 1; omega
  · refine ev_neg c ?_
    rw [cnt_miss c]
    by_cases z : s = 0
    · refine ev_pos z (ev_eq fun _ => ?_); rw [if_pos z, wrap_of (by omega) (by omega)]
    · refine ev_neg z (ev_eq fun _ => ?_); rw [if_neg z]; congr 1; omega
theorem sofS_l0 (n j : Nat) (hn : n < 10 ^ j) (hj : j ≤ 13) (s : Int) (hs0 : 0 ≤ s) (hs : s ≤ 9223372036854775807) : ∀ (e i : Nat), i + e = j →
    Ev (fun k => spec_diOfSum.l0 k (n : Int) s (cnt s (10 ^ (j - i) * (n / 10 ^ (j - i)))) (mkT j n) (mkT j n) (i : Int)) (cnt s (n + 1) - if s = 0 then 1 else 0) := by
  intro e
  induction e with
  | zero =>
    intro i hi
    obtain rfl : i = j := by omega
    rw [Nat.sub_self, Nat.pow_zero, Nat.one_mul, Nat.div_one]
    exact sofS_end n i hn hj s
  | succ e ih =>
    intro i hi
    refine ev_succ ?_
    simp only [spec_diOfSum.l0]
    have hbt := T_bt j n i (by omega)
    have ht : n / 10 ^ (j - 1 - i) % 10 < 10 := Nat.mod_lt _ (by omega)
    have hsz := T_size j n
    rw [hsz, hbt]
    refine ev_pos (by omega) (ev_pos (by omega) ?_)
    have h := sofS_l1 n j hn hj s hs0 hs i (by omega) _ (ih (i + 1) (by omega)) (n / 10 ^ (j - 1 - i) % 10) 0 (by omega)
    have e2 : (10 : Nat) ^ (j - 1 - i) * (10 * (n / 10 ^ (j - i)) + 0) = 10 ^ (j - i) * (n / 10 ^ (j - i)) := by
      rw [Nat.add_zero, ← Nat.mul_assoc, ← Nat.pow_succ, show (j - 1 - i).succ = j - i by omega]
    rw [e2] at h
    exact h
/-- how many numbers from 1 up to n have a sum -/
def cO (s : Int) (n : Nat) : Int := cnt s (n + 1) - if s = 0 then 1 else 0
theorem diOfSum_ev (n : Nat) (hn : n < 10 ^ 13) (s : Int) (hs0 : 0 ≤ s) (hs : s ≤ 9223372036854775807) : Ev (fun k => spec_diOfSum.f k (n : Int) s) (cO s n) := by
  unfold spec_diOfSum.f
  refine Ev.bind (l1Num_ev n (by omega)) ?_
  rw [dec_T]
  have hj := nDig_le n 13 (by omega) hn
  have h := sofS_l0 n (Lib.nDigits n) (Lib.lt_pow_nDigits n) hj s hs0 hs (Lib.nDigits n) 0 (by omega)
  have e : n / 10 ^ (Lib.nDigits n - 0) = 0 := Nat.div_eq_of_lt (Lib.lt_pow_nDigits n)
  rw [e, Nat.mul_zero] at h
  exact h
theorem cO_pos {s : Int} (h : 1 ≤ s) (n : Nat) : cO s n = cnt s (n + 1) := by unfold cO; rw [if_neg (by omega)]; omega
theorem cO_zero (n : Nat) : cO 0 n = 0 := by
  unfold cO
  have h : ∀ m, cnt 0 (m + 1) = 1 := by
    intro m
    induction m with
    | zero => simp [cnt, ds_small]
    | succ m ih => have := ds_pos (n := m + 1) (by omega); rw [cnt_miss (by omega), ih]
  rw [h, if_pos rfl]; rfl
theorem cnt_one {s : Int} (h : 1 ≤ s) : cnt s 1 = 0 := by
  simp only [cnt]; rw [if_neg (by rw [ds_small (by omega)]; omega)]; rfl
/-- the number with a sum and a rank -/
def rkP (s r : Int) (m : Nat) : Prop := 1 ≤ m ∧ m ≤ 1000000000000 ∧ ds m = s ∧ cnt s m = r
theorem rk_uniq {s r : Int} {m n : Nat} (h : rkP s r m) (g : rkP s r n) : m = n := cnt_inj h.2.2.1 g.2.2.1 (h.2.2.2.trans g.2.2.2.symm)
theorem rk_lt {s r : Int} {m T : Nat} (hT : T = 1000000000001) (h : rkP s r m) : r < cnt s T := by
  obtain ⟨_, h2, h3, h4⟩ := h
  have := cnt_mono s (m := m + 1) (n := T) (by omega)
  rw [cnt_hit h3] at this; omega
theorem mid_eq (lo hi : Nat) (h : lo ≤ hi) (hN : hi ≤ 4000000000000000000) : ∃ q : Nat, wrap64 (Int.tdiv (wrap64 ((lo : Int) + hi)) 2) = (q : Int) ∧ q = (lo + hi) / 2 := by
  refine ⟨(lo + hi) / 2, ?_, rfl⟩
  rw [wrap_of (x := (lo : Int) + hi) (by omega) (by omega), Int.tdiv_eq_ediv_of_nonneg (by omega), wrap_of (by omega) (by omega)]; omega
theorem cnt_step {s r : Int} {lo : Nat} (g1 : cnt s lo ≤ r) (g2 : r < cnt s (lo + 1)) : ds lo = s ∧ cnt s lo = r := by
  by_cases c : ds lo = s
  · rw [cnt_hit c] at g2; exact ⟨c, by omega⟩
  · rw [cnt_miss c] at g2; omega
theorem sRank_base (s r : Int) (lo : Nat) (h1 : 1 ≤ lo) (hN : lo ≤ 1000000000000) (g1 : cnt s lo ≤ r) (g2 : r < cnt s (lo + 1)) : ∃ m, rkP s r m ∧ Ev (fun k => spec_diOfRank.l0 k s r (lo : Int) (lo : Int)) ((m : Int), true) := by
  obtain ⟨h2, h3⟩ := cnt_step g1 g2
  refine ⟨lo, ⟨h1, hN, h2, h3⟩, ev_succ ?_⟩
  simp only [spec_diOfRank.l0]
  exact ev_neg (by omega) (ev_eq fun _ => rfl)
theorem sRank_step1 (s r : Int) (lo hi q x : Nat) (hs : 1 ≤ s) (hs2 : s ≤ 9223372036854775807) (hlt : lo < hi) (hq : q < 10 ^ 13) (em : wrap64 (Int.tdiv (wrap64 ((lo : Int) + hi)) 2) = (q : Int)) (cw : cnt s (q + 1) > r)
    (he : Ev (fun k => spec_diOfRank.l0 k s r (lo : Int) (q : Int)) ((x : Int), true)) : Ev (fun k => spec_diOfRank.l0 k s r (lo : Int) (hi : Int)) ((x : Int), true) := by
  have hev := diOfSum_ev q hq s (by omega) hs2
  rw [cO_pos hs] at hev
  refine ev_succ ?_
  simp only [spec_diOfRank.l0]
  rw [em]
  exact ev_pos (Int.ofNat_lt.mpr hlt) (Ev.bind hev (ev_pos cw he))
theorem sRank_step2 (s r : Int) (lo hi q x : Nat) (hs : 1 ≤ s) (hs2 : s ≤ 9223372036854775807) (hlt : lo < hi) (hq : q < 10 ^ 13) (em : wrap64 (Int.tdiv (wrap64 ((lo : Int) + hi)) 2) = (q : Int)) (cw : ¬ cnt s (q + 1) > r)
    (he : Ev (fun k => spec_diOfRank.l0 k s r ((q + 1 : Nat) : Int) (hi : Int)) ((x : Int), true)) : Ev (fun k => spec_diOfRank.l0 k s r (lo : Int) (hi : Int)) ((x : Int), true) := by
  have hev := diOfSum_ev q hq s (by omega) hs2
  rw [cO_pos hs] at hev
  have ew : wrap64 ((q : Int) + 1) = ((q + 1 : Nat) : Int) := wrap_nat (by omega)
  refine ev_succ ?_
  simp only [spec_diOfRank.l0]
  rw [em, ew]
  exact ev_pos (Int.ofNat_lt.mpr hlt) (Ev.bind hev (ev_neg cw he))
theorem sRank_loop (s r : Int) (hs : 1 ≤ s) (hs2 : s ≤ 9223372036854775807) : ∀ (f lo hi : Nat), hi - lo ≤ f → 1 ≤ lo → lo ≤ hi → hi ≤ 1000000000000 → cnt s lo ≤ r → r < cnt s (hi + 1) →
    ∃ m, rkP s r m ∧ Ev (fun k => spec_diOfRank.l0 k s r (lo : Int) (hi : Int)) ((m : Int), true) := by
  intro f
  induction f with
  | zero =>
    intro lo hi hf h1 hle hN g1 g2
    have e : lo = hi := by clear g1 g2; omega
    subst e
    exact sRank_base s r lo h1 hN g1 g2
  | succ f ih =>
    intro lo hi hf h1 hle hN g1 g2
    by_cases c : lo < hi
    · obtain ⟨q, em, hq⟩ := mid_eq lo hi hle (by clear g1 g2; omega)
      have q1 : q < 10 ^ 13 := by clear g1 g2 em; omega
      have q2 : q - lo ≤ f ∧ lo ≤ q ∧ q ≤ 1000000000000 ∧ hi - (q + 1) ≤ f ∧ 1 ≤ q + 1 ∧ q + 1 ≤ hi := by clear g1 g2 em q1; omega
      by_cases cw : cnt s (q + 1) > r
      · obtain ⟨x, hx, he⟩ := ih lo q q2.1 h1 q2.2.1 q2.2.2.1 g1 cw
        exact ⟨x, hx, sRank_step1 s r lo hi q x hs hs2 c q1 em cw he⟩
      · obtain ⟨x, hx, he⟩ := ih (q + 1) hi q2.2.2.2.1 q2.2.2.2.2.1 q2.2.2.2.2.2 hN (Int.not_lt.mp cw) g2
        exact ⟨x, hx, sRank_step2 s r lo hi q x hs hs2 c q1 em cw he⟩
    · have e : lo = hi := by clear g1 g2; omega
      subst e
      exact sRank_base s r lo h1 hN g1 g2
theorem sRank_ev (s r : Int) (T : Nat) (hT : T = 1000000000001) (hs : 1 ≤ s) (hs2 : s ≤ 9223372036854775807) (hr : 0 ≤ r) :
    (∃ m, rkP s r m ∧ Ev (fun k => spec_diOfRank.f k s r) ((m : Int), true)) ∨ (cnt s T ≤ r ∧ Ev (fun k => spec_diOfRank.f k s r) (0, false)) := by
  obtain ⟨N, rfl⟩ : ∃ N, T = N + 1 := ⟨T - 1, by omega⟩
  have hN : (1000000000000 : Int) = (N : Int) := by omega
  have hev := diOfSum_ev N (by omega) s (by omega) hs2
  rw [cO_pos hs] at hev
  have hone := cnt_one hs
  by_cases c : cnt s (N + 1) ≤ r
  · refine .inr ⟨c, ?_⟩
    unfold spec_diOfRank.f
    rw [hN]
    exact Ev.bind hev (ev_pos c (ev_eq fun _ => rfl))
  · obtain ⟨m, hm, he⟩ := sRank_loop s r hs hs2 N 1 N (by omega) (by omega) (by omega) (by omega) (by rw [hone]; exact hr) (by omega)
    refine .inl ⟨m, hm, ?_⟩
    unfold spec_diOfRank.f
    rw [hN]
    exact Ev.bind hev (ev_neg c he)
theorem iNos_ev (s r : Int) (T : Nat) (hT : T = 1000000000001) (hs : 1 ≤ s) (hs2 : s ≤ 108) :
    (∃ m, rkP s r m ∧ Ev (fun k => impl_NumberOfSum.f k s r) ((m : Int), true)) ∨ ((r < 0 ∨ cnt s T ≤ r) ∧ Ev (fun k => impl_NumberOfSum.f k s r) (0, false)) := by
  have st : ∀ (x : Int × Bool) (y : Int × Bool), Ev (fun k => impl_ofSum.f k s r) x → (if x.2 = true then (x.1, true) else (0, false)) = y → Ev (fun k => impl_NumberOfSum.f k s r) y := fun x y hx hy => by
    unfold impl_NumberOfSum.f
    rw [within_eq]
    refine ev_pos (decide_eq_true ⟨hs, hs2⟩) (Ev.bind hx ?_)
    subst hy
    by_cases c : x.2 = true
    · simp only [if_pos c]; exact ev_eq fun _ => rfl
    · simp only [if_neg c]; exact ev_eq fun _ => rfl
  by_cases h0 : r < 0
  · exact .inr ⟨.inl h0, st _ _ (iofSum_neg s r h0) rfl⟩
  obtain ⟨Q, hQ⟩ : ∃ Q : Nat, Q = 10 ^ 13 := ⟨_, rfl⟩
  have hTQ : T ≤ Q := by omega
  have hm13 := cnt_mono s hTQ
  have hf := cnt_full 13 s
  have hbig := iofSum_big s r (by omega)
  rw [← hf, ← hQ] at hbig
  clear hf
  by_cases hb : cnt s Q ≤ r
  · exact .inr ⟨.inr (by omega), st _ _ (hbig hb) rfl⟩
  obtain ⟨m, hm, hd, hc⟩ := cnt_find s Q r (by omega) (by omega)
  have he := iofSum_hit m (by omega)
  rw [hd, hc] at he
  have hm1 : 1 ≤ m := by
    rcases Nat.eq_zero_or_pos m with e | e
    · subst e; rw [ds_small (by omega)] at hd; omega
    · exact e
  by_cases cm : m ≤ 1000000000000
  · refine .inl ⟨m, ⟨hm1, cm, hd, hc⟩, st _ _ he ?_⟩
    rw [if_pos (by simp; omega)]
  · refine .inr ⟨.inr ?_, st _ _ he ?_⟩
    · have := cnt_mono s (m := T) (n := m) (by omega); omega
    · rw [if_neg (by simp; omega)]

/-! ### the program's and the reference's counts of numbers without a digit -/
def cb (d : Nat) : Int := if d = 0 then 0 else 1
def lessb (d e : Nat) : Int := if d < e then 1 else 0
theorem p9_pos (k : Nat) : 1 ≤ (9 : Int) ^ k := by
  induction k with
  | zero => decide
  | succ k ih => rw [Int.pow_succ]; omega
theorem p9_le (k : Nat) (h : k ≤ 13) : (9 : Int) ^ k ≤ 2541865828329 := by
  have h1 : (9 : Nat) ^ k ≤ 9 ^ 13 := Nat.pow_le_pow_right (by omega) h
  have h2 : (9 : Int) ^ k = ((9 ^ k : Nat) : Int) := by rw [Int.natCast_pow]; rfl
  rw [h2]
  have h3 : (9 : Nat) ^ 13 = 2541865828329 := by decide
  omega
theorem fewer_bd (d k : Nat) : 0 ≤ fewer d k ∧ fewer d k ≤ 2 * 9 ^ k := by
  induction k with
  | zero => simp [fewer]
  | succ k ih =>
    have := p9_pos k
    rw [fewer, Int.pow_succ]
    generalize (9 : Int) ^ k = z at *
    split <;> omega
theorem wb_digits (k d a : Nat) (hd : d < 10) (ha : 0 < a) (hn : hasD d a = false) : ∀ e : Nat, e ≤ 10 → wb d (10 ^ k * (10 * a + e)) = wb d (10 ^ (k + 1) * a) + ((e : Int) - lessb d e) * 9 ^ k := by
  intro e
  induction e with
  | zero =>
    intro _
    have : (10 : Nat) ^ (k + 1) * a = 10 ^ k * (10 * a + 0) := by rw [Nat.pow_succ, Nat.mul_assoc]; rfl
    rw [this]; unfold lessb; rw [if_neg (by omega)]; simp
  | succ e ih =>
    intro he
    have h1 := ih (by omega)
    have h2 := wb_block k d hd (10 * a + e) (by omega)
    rw [hasD_cons a e ha (by omega), hn, Bool.or_false] at h2
    rw [← Nat.add_assoc, h2, h1]
    unfold lessb
    generalize (9 : Int) ^ k = z
    rw [Int.sub_mul, Int.sub_mul]
    have e1 : (((e + 1 : Nat) : Int)) * z = (e : Int) * z + z := by rw [Int.natCast_add, Int.add_mul]; simp
    rw [e1]
    by_cases c : e = d
    · subst c; have q1 : (if e < e + 1 then (1 : Int) else 0) = 1 := if_pos (by omega); have q2 : (if e < e then (1 : Int) else 0) = 0 := if_neg (by omega); rw [q1, q2]; simp
    · have : (e == d) = false := by simpa using c
      rw [this]
      by_cases c2 : d < e
      · have q1 : (if d < e + 1 then (1 : Int) else 0) = 1 := if_pos (by omega)
        have q2 : (if d < e then (1 : Int) else 0) = 1 := if_pos c2
        rw [q1, q2]; simp; omega
      · have q1 : (if d < e + 1 then (1 : Int) else 0) = 0 := if_neg (by omega)
        have q2 : (if d < e then (1 : Int) else 0) = 0 := if_neg c2
        rw [q1, q2]; simp; omega
theorem wb_first (k d : Nat) (hd : d < 10) : ∀ e : Nat, e ≤ 9 → wb d (10 ^ k * (e + 1)) = fewer d k + ((e : Int) - if 1 ≤ d ∧ d ≤ e then 1 else 0) * 9 ^ k := by
  intro e
  induction e with
  | zero =>
    intro _
    rw [Nat.zero_add, Nat.mul_one, fewer_eq d hd, if_neg (by omega)]; simp
  | succ e ih =>
    intro he
    have h1 := ih (by omega)
    have h2 := wb_block k d hd (e + 1) (by omega)
    rw [hasD_small (by omega)] at h2
    rw [h2, h1]
    generalize (9 : Int) ^ k = z
    rw [Int.sub_mul, Int.sub_mul]
    have e1 : (((e + 1 : Nat) : Int)) * z = (e : Int) * z + z := by rw [Int.natCast_add, Int.add_mul]; simp
    rw [e1]
    by_cases c : e + 1 = d
    · have : (e + 1 == d) = true := by simpa using c
      have q1 : (if 1 ≤ d ∧ d ≤ e + 1 then (1 : Int) else 0) = 1 := if_pos (by omega)
      have q2 : (if 1 ≤ d ∧ d ≤ e then (1 : Int) else 0) = 0 := if_neg (by omega)
      rw [this, q1, q2]; simp
    · have : (e + 1 == d) = false := by simpa using c
      rw [this]
      by_cases c2 : 1 ≤ d ∧ d ≤ e
      · have q1 : (if 1 ≤ d ∧ d ≤ e + 1 then (1 : Int) else 0) = 1 := if_pos (by omega)
        have q2 : (if 1 ≤ d ∧ d ≤ e then (1 : Int) else 0) = 1 := if_pos c2
        rw [q1, q2]; simp; omega
      · have q1 : (if 1 ≤ d ∧ d ≤ e + 1 then (1 : Int) else 0) = 0 := if_neg (by omega)
        have q2 : (if 1 ≤ d ∧ d ≤ e then (1 : Int) else 0) = 0 := if_neg c2
        rw [q1, q2]; simp; omega
theorem top_pos (n j : Nat) (hj : j = Lib.nDigits n) (hn : 0 < n) (i : Nat) (hi : 0 < i) (hij : i ≤ j) : 0 < n / 10 ^ (j - i) := by
  have : 10 ^ (j - 1) ≤ n := by
    subst hj
    clear hi hij
    induction n using Nat.strongRecOn with
    | _ n ih =>
      by_cases h : n < 10
      · rw [Lib.nDigits_small h]; exact hn
      · rw [Lib.nDigits_big h]
        have h1 := ih (n / 10) (by omega) (by omega)
        have h2 : 0 < Lib.nDigits (n / 10) := by
          by_cases c : n / 10 < 10
          · rw [Lib.nDigits_small c]; omega
          · rw [Lib.nDigits_big c]; omega
        rw [show Lib.nDigits (n / 10) + 1 - 1 = (Lib.nDigits (n / 10) - 1) + 1 by omega, Nat.pow_succ]
        omega
  have h2 : 10 ^ (j - i) ≤ n := Nat.le_trans (Nat.pow_le_pow_right (by omega) (by omega)) this
  exact Nat.div_pos h2 (Nat.pow_pos (by omega))
theorem bit_eq (b : Bool) : impl_bit.f b = some (if b = true then 1 else 0) := by cases b <;> rfl
theorem wb_bd (d n : Nat) (hn : n ≤ 10 ^ 14) : 0 ≤ wb d n ∧ wb d n ≤ 100000000000000 := by
  have := wb_lt d n
  exact ⟨wb_nonneg d n, by omega⟩
theorem prefix_le (n j i : Nat) (hn : n < 10 ^ j) (hj : j ≤ 13) (hi : i < j) (e : Nat) (he : e ≤ 10) : 10 ^ (j - 1 - i) * (10 * (n / 10 ^ (j - i)) + e) ≤ 10 ^ 14 := by
  have hq := pdivlt n j i hn (by omega)
  have h1 : 10 * (n / 10 ^ (j - i)) + e ≤ 10 ^ (i + 1) := by rw [Nat.pow_succ]; omega
  have h2 := Nat.mul_le_mul_left (10 ^ (j - 1 - i)) h1
  rw [← Nat.pow_add, show j - 1 - i + (i + 1) = j by omega] at h2
  exact Nat.le_trans h2 (Nat.pow_le_pow_right (by omega) (by omega))
theorem pre_split (n j i : Nat) (hi : i < j) : 10 ^ (j - 1 - i + 1) * (n / 10 ^ (j - i)) = 10 ^ (j - i) * (n / 10 ^ (j - i)) := by
  rw [show j - 1 - i + 1 = j - i by omega]
theorem mul9 (e : Int) (k : Nat) (h0 : -1 ≤ e) (h9 : e ≤ 9) (hk : k ≤ 13) : -2541865828329 ≤ e * 9 ^ k ∧ e * 9 ^ k ≤ 22876792454961 := by
  have h1 := p9_pos k
  have h2 := p9_le k hk
  have h3 : e * 9 ^ k ≤ 9 * 9 ^ k := Int.mul_le_mul_of_nonneg_right h9 (by omega)
  have h4 : (-1) * 9 ^ k ≤ e * 9 ^ k := Int.mul_le_mul_of_nonneg_right h0 (by omega)
  omega
theorem p9_div (k : Nat) (hk : k ≤ 12) : wrap64 (Int.tdiv ((9 : Int) ^ (k + 1)) 9) = 9 ^ k := by
  have h1 := p9_pos k
  have h2 := p9_le k (by omega)
  rw [Int.pow_succ, Int.tdiv_eq_ediv_of_nonneg (by omega), Int.mul_ediv_cancel _ (by decide), wrap_of (by omega) (by omega)]

/-! ### spec.diWithout -/
theorem own_eq (j n i : Nat) (h : i < j) : (bt (mkT j n) (i : Int) - 48) % 256 = ((n / 10 ^ (j - 1 - i) % 10 : Nat) : Int) := by
  rw [T_bt j n i h]
  have : n / 10 ^ (j - 1 - i) % 10 < 10 := Nat.mod_lt _ (by omega)
  omega
theorem swo_l2 (n d j : Nat) (hj : j ≤ 13) (cnt0 : Int) (i : Nat) (hi : i < j) (r : Int)
    (h : Ev (fun k => spec_diWithout.l3 k (n : Int) (d : Int) (mkT j n) cnt0 (i : Int) (9 ^ (j - 1 - i)) 0 (mkT j n) (i : Int)) r) :
    ∀ (e q : Nat), q + e = j - 1 - i → Ev (fun k => spec_diWithout.l2 k (n : Int) (d : Int) (mkT j n) cnt0 (i : Int) (9 ^ q) ((i + 1 + q : Nat) : Int) (mkT j n) (i : Int)) r := by
  intro e
  induction e with
  | zero =>
    intro q hq
    refine ev_succ ?_
    simp only [spec_diWithout.l2]
    rw [T_size]
    obtain rfl : q = j - 1 - i := by omega
    exact ev_neg (by omega) h
  | succ e ih =>
    intro q hq
    refine ev_succ ?_
    simp only [spec_diWithout.l2]
    rw [T_size]
    have h1 := p9_pos q
    have h2 := p9_le (q + 1) (by omega)
    rw [Int.pow_succ] at h2
    refine ev_pos (by omega) ?_
    have hn := ih (q + 1) (by omega)
    rw [Int.pow_succ] at hn
    rw [wrap_of (x := (9 : Int) ^ q * 9) (by omega) (by omega), wrap_nat (by omega)]
    exact hn
/-- one digit more, behind others -/
theorem swo_l3 (n d j : Nat) (hn_ : n < 10 ^ j) (hj : j ≤ 13) (hd : d < 10) (i : Nat) (hi : i < j) (h0 : 0 < i) (ha : 0 < n / 10 ^ (j - i)) (hno : hasD d (n / 10 ^ (j - i)) = false) (r : Int)
    (hend : n / 10 ^ (j - 1 - i) % 10 = d → r = wb d (10 ^ (j - 1 - i) * (10 * (n / 10 ^ (j - i)) + n / 10 ^ (j - 1 - i) % 10)))
    (h : n / 10 ^ (j - 1 - i) % 10 ≠ d → Ev (fun k => spec_diWithout.l1 k (n : Int) (d : Int) (mkT j n) (wb d (10 ^ (j - 1 - i) * (10 * (n / 10 ^ (j - i)) + n / 10 ^ (j - 1 - i) % 10))) (mkT j n) ((i + 1 : Nat) : Int)) r) :
    ∀ (e q : Nat), q + e = n / 10 ^ (j - 1 - i) % 10 → Ev (fun k => spec_diWithout.l3 k (n : Int) (d : Int) (mkT j n) (wb d (10 ^ (j - 1 - i) * (10 * (n / 10 ^ (j - i)) + q))) (i : Int) (9 ^ (j - 1 - i)) (q : Int) (mkT j n) (i : Int)) r := by
  have ht : n / 10 ^ (j - 1 - i) % 10 < 10 := Nat.mod_lt _ (by omega)
  have how := own_eq j n i hi
  have hsz := T_size j n
  intro e
  induction e with
  | zero =>
    intro q hq
    refine ev_succ ?_
    simp only [spec_diWithout.l3]
    rw [hsz, how]
    obtain rfl : q = n / 10 ^ (j - 1 - i) % 10 := by omega
    refine ev_pos (by omega) (ev_pos (by omega) (ev_neg (by omega) ?_))
    by_cases c : n / 10 ^ (j - 1 - i) % 10 = d
    · exact ev_pos (by omega) (ev_eq fun _ => by rw [hend c])
    · rw [wrap_nat (by omega)]
      exact ev_neg (by omega) (h c)
  | succ e ih =>
    intro q hq
    refine ev_succ ?_
    simp only [spec_diWithout.l3]
    rw [hsz, how]
    have hn := ih (q + 1) (by omega)
    have hb := wb_block (j - 1 - i) d hd (10 * (n / 10 ^ (j - i)) + q) (by omega)
    rw [hasD_cons _ q ha (by omega), hno, Bool.or_false] at hb
    rw [← Nat.add_assoc, hb] at hn
    refine ev_pos (by omega) (ev_pos (by omega) (ev_pos (by omega) ?_))
    rw [wrap_nat (i := q) (by omega)]
    by_cases c : q = d
    · have e1 : (q == d) = true := by simpa using c
      rw [e1, if_pos rfl, Int.add_zero] at hn
      exact ev_pos (by omega) hn
    · have e1 : (q == d) = false := by simpa using c
      rw [e1, if_neg (by decide)] at hn
      have hw := wb_bd d _ (prefix_le n j i hn_ hj hi q (by omega))
      have h9 := p9_le (j - 1 - i) (by omega)
      have h91 := p9_pos (j - 1 - i)
      refine ev_neg (by omega) (ev_pos (by omega) ?_)
      rw [wrap_of (by omega) (by omega)]
      exact hn
theorem pdivQ (n j i : Nat) (hi : i < j) : n / 10 ^ (j - 1 - i) = 10 * (n / 10 ^ (j - i)) + n / 10 ^ (j - 1 - i) % 10 := by
  have := pdivJ n j i hi
  rw [show j - (i + 1) = j - 1 - i by omega] at this
  exact this
theorem stop_eq (n j i d : Nat) (hi : i < j) (ha : 0 < 10 * (n / 10 ^ (j - i)) + n / 10 ^ (j - 1 - i) % 10) (h : hasD d (10 * (n / 10 ^ (j - i)) + n / 10 ^ (j - 1 - i) % 10) = true) :
    wb d (n + 1) = wb d (10 ^ (j - 1 - i) * (10 * (n / 10 ^ (j - i)) + n / 10 ^ (j - 1 - i) % 10)) := by
  have e := pdivQ n j i hi
  rw [← e] at ha h ⊢
  exact wb_stop ha h
theorem swo_l1 (n d j : Nat) (hn : n < 10 ^ j) (hj : j ≤ 13) (hjn : j = Lib.nDigits n) (h0 : 0 < n) (hd : d < 10) : ∀ (e i : Nat), i + e = j → 0 < i → hasD d (n / 10 ^ (j - i)) = false →
    Ev (fun k => spec_diWithout.l1 k (n : Int) (d : Int) (mkT j n) (wb d (10 ^ (j - i) * (n / 10 ^ (j - i)))) (mkT j n) (i : Int)) (wb d (n + 1)) := by
  intro e
  induction e with
  | zero =>
    intro i hi h1 hno
    obtain rfl : i = j := by omega
    rw [Nat.sub_self, Nat.pow_zero, Nat.div_one] at hno
    rw [Nat.sub_self, Nat.pow_zero, Nat.one_mul, Nat.div_one]
    refine ev_succ ?_
    simp only [spec_diWithout.l1]
    rw [T_size, wb_hit h0 hno]
    have h2 := wb_lt d n
    have h3 := wb_nonneg d n
    have h4 : n < 10 ^ 13 := Nat.lt_of_lt_of_le hn (Nat.pow_le_pow_right (by omega) hj)
    refine ev_neg (by omega) (ev_neg (by omega) (ev_eq fun _ => ?_))
    rw [wrap_of (by omega) (by omega)]
  | succ e ih =>
    intro i hi h1 hno
    have hij : i < j := by omega
    have ha := top_pos n j hjn h0 i h1 (by omega)
    have ht : n / 10 ^ (j - 1 - i) % 10 < 10 := Nat.mod_lt _ (by omega)
    refine ev_succ ?_
    simp only [spec_diWithout.l1]
    rw [T_size, T_bt j n i hij, wrap_nat (by omega)]
    refine ev_pos (by omega) (ev_pos (by omega) ?_)
    have h3 := swo_l3 n d j hn hj hd i hij h1 ha hno (wb d (n + 1))
      (fun c => stop_eq n j i d hij (by omega) (by rw [hasD_cons _ _ ha ht, c]; simp))
      (fun c => by
        have hq := pdivJ n j i hij
        have e1 : j - 1 - i = j - (i + 1) := by omega
        have h5 := ih (i + 1) (by omega) (by omega) (by rw [hq, hasD_cons _ _ ha ht, hno]; simpa using c)
        rw [hq] at h5
        rw [e1] at h5 ⊢
        exact h5)
      (n / 10 ^ (j - 1 - i) % 10) 0 (by omega)
    rw [Nat.add_zero] at h3
    have e2 : (10 : Nat) ^ (j - 1 - i) * (10 * (n / 10 ^ (j - i))) = 10 ^ (j - i) * (n / 10 ^ (j - i)) := by
      rw [← Nat.mul_assoc, ← Nat.pow_succ, show (j - 1 - i).succ = j - i by omega]
    rw [e2] at h3
    have h4 := swo_l2 n d j hj _ i hij _ h3 (j - 1 - i) 0 (by omega)
    rw [Nat.add_zero] at h4
    exact h4
/-- the first digit -/
theorem swo_f1 (n d j : Nat) (hj : j ≤ 13) (h1j : 1 ≤ j) (hd : d < 10) (r : Int)
    (hend : n / 10 ^ (j - 1 - 0) % 10 = d → r = wb d (10 ^ (j - 1 - 0) * (n / 10 ^ (j - 1 - 0) % 10)))
    (h : n / 10 ^ (j - 1 - 0) % 10 ≠ d → Ev (fun k => spec_diWithout.l1 k (n : Int) (d : Int) (mkT j n) (wb d (10 ^ (j - 1 - 0) * (n / 10 ^ (j - 1 - 0) % 10))) (mkT j n) ((0 + 1 : Nat) : Int)) r) :
    ∀ (e q : Nat), q + e = n / 10 ^ (j - 1 - 0) % 10 → 1 ≤ q → Ev (fun k => spec_diWithout.l3 k (n : Int) (d : Int) (mkT j n) (wb d (10 ^ (j - 1 - 0) * q)) ((0 : Nat) : Int) (9 ^ (j - 1 - 0)) (q : Int) (mkT j n) ((0 : Nat) : Int)) r := by
  have ht : n / 10 ^ (j - 1 - 0) % 10 < 10 := Nat.mod_lt _ (by omega)
  have how := own_eq j n 0 (by omega)
  have hsz := T_size j n
  intro e
  induction e with
  | zero =>
    intro q hq hq1
    refine ev_succ ?_
    simp only [spec_diWithout.l3]
    rw [hsz, how]
    obtain rfl : q = n / 10 ^ (j - 1 - 0) % 10 := by omega
    refine ev_pos (by omega) (ev_pos (by omega) (ev_neg (by omega) ?_))
    by_cases c : n / 10 ^ (j - 1 - 0) % 10 = d
    · exact ev_pos (by omega) (ev_eq fun _ => by rw [hend c])
    · rw [wrap_nat (by omega)]
      exact ev_neg (by omega) (h c)
  | succ e ih =>
    intro q hq hq1
    refine ev_succ ?_
    simp only [spec_diWithout.l3]
    rw [hsz, how]
    have hn := ih (q + 1) (by omega) (by omega)
    have hb := wb_block (j - 1 - 0) d hd q (by omega)
    rw [hasD_small (show q < 10 by omega)] at hb
    rw [hb] at hn
    refine ev_pos (by omega) (ev_pos (by omega) (ev_pos (by omega) ?_))
    rw [wrap_nat (i := q) (by omega)]
    by_cases c : q = d
    · have e1 : (q == d) = true := by simpa using c
      rw [e1, if_pos rfl, Int.add_zero] at hn
      exact ev_pos (by omega) hn
    · have e1 : (q == d) = false := by simpa using c
      rw [e1, if_neg (by decide)] at hn
      have hle : 10 ^ (j - 1 - 0) * q ≤ 10 ^ 14 := by
        have h2 := Nat.mul_le_mul_left (10 ^ (j - 1 - 0)) (show q ≤ 10 by omega)
        rw [← Nat.pow_succ] at h2
        exact Nat.le_trans h2 (Nat.pow_le_pow_right (by omega) (by omega))
      have hw := wb_bd d _ hle
      have h9 := p9_le (j - 1 - 0) (by omega)
      have h91 := p9_pos (j - 1 - 0)
      refine ev_neg (by omega) (ev_neg (by omega) (ev_pos (by omega) ?_))
      rw [wrap_of (by omega) (by omega)]
      exact hn
theorem swo_l0 (n d j : Nat) (hj : j ≤ 13) (r : Int) (h1j : 1 ≤ j) (h : Ev (fun k => spec_diWithout.l1 k (n : Int) (d : Int) (mkT j n) (fewer d (j - 1)) (mkT j n) 0) r) :
    ∀ (e i : Nat), i + 1 + e = j → Ev (fun k => spec_diWithout.l0 k (n : Int) (d : Int) (mkT j n) (fewer d i) ((if d = 0 then 9 else 8) * 9 ^ i) ((i + 1 : Nat) : Int)) r := by
  intro e
  induction e with
  | zero =>
    intro i hi
    refine ev_succ ?_
    simp only [spec_diWithout.l0]
    rw [T_size]
    obtain rfl : i = j - 1 := by omega
    exact ev_neg (by omega) h
  | succ e ih =>
    intro i hi
    refine ev_succ ?_
    simp only [spec_diWithout.l0]
    rw [T_size]
    have h1 := p9_pos i
    have h2 := p9_le (i + 1) (by omega)
    have h3 := fewer_bd d i
    have h4 := ih (i + 1) (by omega)
    rw [fewer, Int.pow_succ] at h4
    rw [Int.pow_succ] at h2
    have e1 : ((if d = 0 then (9 : Int) else 8) * 9 ^ i) * 9 = (if d = 0 then 9 else 8) * (9 ^ i * 9) := by rw [Int.mul_assoc]
    have e2 : 0 ≤ (if d = 0 then (9 : Int) else 8) * 9 ^ i ∧ (if d = 0 then (9 : Int) else 8) * 9 ^ i ≤ 9 * 9 ^ i := by
      generalize (9 : Int) ^ i = z at *
      split <;> omega
    refine ev_pos (by omega) ?_
    rw [wrap_of (x := ((if d = 0 then (9 : Int) else 8) * 9 ^ i) * 9) (by omega) (by omega), wrap_of (x := fewer d i + (if d = 0 then (9 : Int) else 8) * 9 ^ i) (by omega) (by omega), e1, wrap_nat (by omega)]
    exact h4
theorem swo_ev (n d : Nat) (hn : n < 10 ^ 13) (hd : d < 10) : Ev (fun k => spec_diWithout.f k (n : Int) (d : Int)) (wb d (n + 1)) := by
  unfold spec_diWithout.f
  refine Ev.bind (l1Num_ev n (by omega)) ?_
  rw [dec_T]
  obtain ⟨j, hjn⟩ : ∃ j, j = Lib.nDigits n := ⟨_, rfl⟩
  have hj : j ≤ 13 := by rw [hjn]; exact nDig_le n 13 (by omega) hn
  have hlt : n < 10 ^ j := by rw [hjn]; exact Lib.lt_pow_nDigits n
  have h1j : 1 ≤ j := by
    rw [hjn]
    by_cases c : n < 10
    · rw [Lib.nDigits_small c]; omega
    · rw [Lib.nDigits_big c]; omega
  rw [← hjn]
  have main : Ev (fun k => spec_diWithout.l1 k (n : Int) (d : Int) (mkT j n) (fewer d (j - 1)) (mkT j n) ((0 : Nat) : Int)) (wb d (n + 1)) := by
    refine ev_succ ?_
    simp only [spec_diWithout.l1]
    rw [T_size, T_bt j n 0 (by omega), wrap_nat (i := 0) (by omega)]
    have ht : n / 10 ^ (j - 1 - 0) % 10 < 10 := Nat.mod_lt _ (by omega)
    refine ev_pos (by omega) (ev_pos (by omega) ?_)
    have l3 : Ev (fun k => spec_diWithout.l3 k (n : Int) (d : Int) (mkT j n) (fewer d (j - 1)) ((0 : Nat) : Int) (9 ^ (j - 1 - 0)) 0 (mkT j n) ((0 : Nat) : Int)) (wb d (n + 1)) := by
      have how := own_eq j n 0 (by omega)
      have hq0 : n / 10 ^ (j - 0) = 0 := Nat.div_eq_of_lt (by rw [Nat.sub_zero]; exact hlt)
      have hq := pdivQ n j 0 (by omega)
      rw [hq0, Nat.mul_zero, Nat.zero_add] at hq
      by_cases hz : n = 0
      · subst hz
        have e0 : (0 : Nat) / 10 ^ (j - 1 - 0) % 10 = 0 := by simp
        rw [e0] at how
        have hj1 : j = 1 := by rw [hjn, Lib.nDigits_small (by omega)]
        subst hj1
        refine ev_succ ?_
        simp only [spec_diWithout.l3]
        rw [T_size, how]
        refine ev_pos (by omega) (ev_pos (by omega) (ev_neg (by omega) ?_))
        by_cases c : d = 0
        · refine ev_pos (by omega) (ev_eq fun _ => ?_)
          rw [wb_one]; rfl
        · refine ev_neg (by omega) (ev_succ ?_)
          simp only [spec_diWithout.l1]
          rw [T_size, wrap_nat (i := 0) (by omega)]
          refine ev_neg (by decide) (ev_pos (by decide) (ev_eq fun _ => ?_))
          rw [wb_one]
      · have hpos : 0 < n := by omega
        have htop := top_pos n j hjn hpos 1 (by omega) (by omega)
        rw [show j - 1 = j - 1 - 0 by omega] at htop
        have f1 := swo_f1 n d j hj h1j hd (wb d (n + 1))
          (fun c => by
            have h5 := stop_eq n j 0 d (by omega) (by rw [hq0]; omega) (by rw [hq0, Nat.mul_zero, Nat.zero_add, hasD_small ht]; simpa using c)
            rw [hq0, Nat.mul_zero, Nat.zero_add] at h5
            exact h5)
          (fun c => by
            have h5 := swo_l1 n d j hlt hj hjn hpos hd (j - 1) 1 (by omega) (by omega) (by
              rw [show j - 1 = j - 1 - 0 by omega, hq, hasD_small ht]; simpa using c)
            rw [show j - 1 = j - 1 - 0 by omega] at h5
            rw [← hq]
            exact h5)
          (n / 10 ^ (j - 1 - 0) % 10 - 1) 1 (by omega) (Nat.le_refl _)
        rw [Nat.mul_one, fewer_eq d hd] at f1
        refine ev_succ ?_
        simp only [spec_diWithout.l3]
        rw [T_size, how]
        refine ev_pos (by omega) (ev_pos (by omega) (ev_pos (by omega) ?_))
        have e1 : wrap64 ((0 : Int) + 1) = ((1 : Nat) : Int) := by rw [wrap_of (by omega) (by omega)]; rfl
        rw [e1]
        by_cases c : d = 0
        · exact ev_pos (by omega) f1
        · exact ev_neg (by omega) (ev_neg (by omega) (ev_neg (by omega) f1))
    have h4 := swo_l2 n d j hj _ 0 (by omega) _ l3 (j - 1 - 0) 0 (by omega)
    exact h4
  have st := swo_l0 n d j hj (wb d (n + 1)) h1j main (j - 1) 0 (by omega)
  rw [Int.pow_zero, Int.mul_one] at st
  by_cases c : d = 0
  · refine ev_pos (by omega) (ev_succ ?_)
    simp only [spec_diWithout.j0]
    rw [if_pos c] at st
    exact st
  · refine ev_neg (by omega) (ev_succ ?_)
    simp only [spec_diWithout.j0]
    rw [if_neg c] at st
    exact st

/-! ### impl.without -/
theorem t19 : wrap64 (Int.tdiv ((9 : Int) ^ 0) 9) = 0 := by rw [show Int.tdiv ((9 : Int) ^ 0) 9 = 0 by decide, wrap_of (by omega) (by omega)]
theorem w0 : wrap64 0 = 0 := wrap_of (by omega) (by omega)
theorem bitD (d : Nat) : impl_bit.f (((d : Int)) != 0) = some (cb d) := by
  rw [bit_eq]; unfold cb
  by_cases c : d = 0
  · subst c; rfl
  · rw [if_neg c, if_pos (by simpa using c)]
theorem bitL (d e : Nat) : impl_bit.f (decide ((d : Int) < (e : Int))) = some (lessb d e) := by
  rw [bit_eq]; unfold lessb
  by_cases c : d < e
  · rw [if_pos c, if_pos (by simpa using c)]
  · rw [if_neg c, if_neg (by simpa using c)]
theorem iwo_l1 (n d j : Nat) (hn : n < 10 ^ j) (hj : j ≤ 13) (hjn : j = Lib.nDigits n) (h0 : 0 < n) (hd : d < 10) : ∀ (e i : Nat), i + e = j → 0 < i → hasD d (n / 10 ^ (j - i)) = false →
    Ev (fun k => impl_without.l1 k (d : Int) (mkT j n) (wb d (10 ^ (j - i) * (n / 10 ^ (j - i))) + cb d) (if i < j then 9 ^ (j - 1 - i) else 0) (j : Int) (i : Int)) (wb d (n + 1)) := by
  have hcb : 0 ≤ cb d ∧ cb d ≤ 1 := by unfold cb; split <;> omega
  intro e
  induction e with
  | zero =>
    intro i hi h1 hno
    obtain rfl : i = j := by omega
    rw [Nat.sub_self, Nat.pow_zero, Nat.div_one] at hno
    rw [Nat.sub_self, Nat.pow_zero, Nat.one_mul, Nat.div_one]
    refine ev_succ ?_
    simp only [impl_without.l1]
    rw [bitD, wb_hit h0 hno]
    have h2 := wb_lt d n
    have h3 := wb_nonneg d n
    have h4 : n < 10 ^ 13 := Nat.lt_of_lt_of_le hn (Nat.pow_le_pow_right (by omega) hj)
    refine ev_neg (by omega) (ev_eq fun _ => ?_)
    simp only [Option.bind_some]
    rw [wrap_of (x := wb d n + cb d + 1) (by omega) (by omega), wrap_of (by omega) (by omega)]
    congr 1; omega
  | succ e ih =>
    intro i hi h1 hno
    have hij : i < j := by omega
    have ha := top_pos n j hjn h0 i h1 (by omega)
    have ht : n / 10 ^ (j - 1 - i) % 10 < 10 := Nat.mod_lt _ (by omega)
    have how := own_eq j n i hij
    obtain ⟨o, ho⟩ : ∃ o, o = n / 10 ^ (j - 1 - i) % 10 := ⟨_, rfl⟩
    rw [← ho] at how ht
    have hwd := wb_digits (j - 1 - i) d (n / 10 ^ (j - i)) hd ha hno o (by omega)
    rw [pre_split n j i hij] at hwd
    have hlb : 0 ≤ lessb d o ∧ lessb d o ≤ 1 := by unfold lessb; split <;> omega
    have hle1 := prefix_le n j i hn hj hij o (by omega)
    have hw1 := wb_bd d _ hle1
    have hle0 := prefix_le n j i hn hj hij 0 (by omega)
    have e0 : 10 ^ (j - 1 - i) * (10 * (n / 10 ^ (j - i)) + 0) = 10 ^ (j - i) * (n / 10 ^ (j - i)) := by
      rw [Nat.add_zero, ← Nat.mul_assoc, ← Nat.pow_succ, show (j - 1 - i).succ = j - i by omega]
    rw [e0] at hle0
    have hw0 := wb_bd d _ hle0
    have hm := mul9 ((o : Int) - lessb d o) (j - 1 - i) (by omega) (by omega) (by omega)
    refine ev_succ ?_
    simp only [impl_without.l1]
    rw [T_size, how, bitL, if_pos hij]
    refine ev_pos (by omega) (ev_pos (by omega) (ev_pos (by omega) ?_))
    simp only [Option.bind_some]
    refine ev_neg (by omega) (ev_succ ?_)
    simp only [impl_without.j2]
    rw [bitD]
    simp only [Option.bind_some]
    rw [wrap_of (x := (o : Int) - lessb d o) (by omega) (by omega), wrap_of (x := ((o : Int) - lessb d o) * 9 ^ (j - 1 - i)) (by omega) (by omega),
      wrap_of (x := wb d (10 ^ (j - i) * (n / 10 ^ (j - i))) + cb d + ((o : Int) - lessb d o) * 9 ^ (j - 1 - i)) (by omega) (by omega)]
    have e2 : wb d (10 ^ (j - i) * (n / 10 ^ (j - i))) + cb d + ((o : Int) - lessb d o) * 9 ^ (j - 1 - i) = wb d (10 ^ (j - 1 - i) * (10 * (n / 10 ^ (j - i)) + o)) + cb d := by omega
    rw [e2]
    refine ev_neg (by decide) ?_
    by_cases c : o = d
    · refine ev_pos (by omega) (ev_eq fun _ => ?_)
      rw [wrap_of (by omega) (by omega)]
      have h5 := stop_eq n j i d hij (by omega) (by rw [← ho, hasD_cons _ _ ha ht, c]; simp)
      rw [← ho] at h5
      rw [h5]; congr 1; omega
    · refine ev_neg (by omega) ?_
      have hq := pdivJ n j i hij
      rw [← ho] at hq
      have e1 : j - 1 - i = j - (i + 1) := by omega
      have h5 := ih (i + 1) (by omega) (by omega) (by rw [hq, hasD_cons _ _ ha ht, hno]; simpa using c)
      rw [hq] at h5
      rw [wrap_nat (by omega)]
      have e3 : wrap64 (Int.tdiv ((9 : Int) ^ (j - 1 - i)) 9) = if i + 1 < j then 9 ^ (j - 1 - (i + 1)) else 0 := by
        by_cases c2 : i + 1 < j
        · rw [if_pos c2, show j - 1 - i = (j - 1 - (i + 1)) + 1 by omega]
          exact p9_div _ (by omega)
        · rw [if_neg c2, show j - 1 - i = 0 by omega]; exact t19
      rw [e3, e1]
      exact h5
theorem iwo_l0 (n d j : Nat) (hj : j ≤ 13) (r : Int) (h1j : 1 ≤ j) (h : Ev (fun k => impl_without.l1 k (d : Int) (mkT j n) (if d = 0 then fewer d (j - 1) else 0) (9 ^ (j - 1)) (j : Int) 0) r) :
    ∀ (e i : Nat), i + e = j - 1 → Ev (fun k => impl_without.l0 k (d : Int) (mkT j n) (if d = 0 then fewer d i else 0) (9 ^ i) (((j - 1 : Nat)) : Int) (i : Int)) r := by
  intro e
  induction e with
  | zero =>
    intro i hi
    refine ev_succ ?_
    simp only [impl_without.l0]
    rw [T_size]
    obtain rfl : i = j - 1 := by omega
    exact ev_neg (by omega) h
  | succ e ih =>
    intro i hi
    have h1 := p9_pos i
    have h2 := p9_le (i + 1) (by omega)
    have h3 := fewer_bd d i
    have h4 := ih (i + 1) (by omega)
    rw [fewer, Int.pow_succ] at h4
    rw [Int.pow_succ] at h2
    refine ev_succ ?_
    simp only [impl_without.l0]
    rw [wrap_of (x := (9 : Int) ^ i * 9) (by omega) (by omega), wrap_nat (by omega)]
    refine ev_pos (by omega) ?_
    by_cases c : d = 0
    · rw [if_pos c] at h4 ⊢
      rw [if_pos c] at h4
      rw [wrap_of (by omega) (by omega), Int.mul_comm (9 ^ i) 9]
      rw [Int.mul_comm (9 ^ i) 9] at h4
      exact ev_pos (by omega) h4
    · rw [if_neg c] at h4 ⊢
      exact ev_neg (by omega) h4
theorem iwo_ev (n d : Nat) (hn : n < 10 ^ 13) (hd : d < 10) : Ev (fun k => impl_without.f k (n : Int) (d : Int)) (wb d (n + 1)) := by
  unfold impl_without.f
  refine ev_bind (itoa_nat n (by omega)) ?_
  rw [dec_T]
  obtain ⟨j, hjn⟩ : ∃ j, j = Lib.nDigits n := ⟨_, rfl⟩
  have hj : j ≤ 13 := by rw [hjn]; exact nDig_le n 13 (by omega) hn
  have hlt : n < 10 ^ j := by rw [hjn]; exact Lib.lt_pow_nDigits n
  have h1j : 1 ≤ j := by
    rw [hjn]
    by_cases c : n < 10
    · rw [Lib.nDigits_small c]; omega
    · rw [Lib.nDigits_big c]; omega
  rw [← hjn]
  have hcb : 0 ≤ cb d ∧ cb d ≤ 1 := by unfold cb; split <;> omega
  have h9 := p9_pos (j - 1)
  have h9l := p9_le (j - 1) (by omega)
  have hfb := fewer_bd d (j - 1)
  have main : Ev (fun k => impl_without.l1 k (d : Int) (mkT j n) (if d = 0 then fewer d (j - 1) else 0) (9 ^ (j - 1)) (j : Int) ((0 : Nat) : Int)) (wb d (n + 1)) := by
    have hq0 : n / 10 ^ (j - 0) = 0 := Nat.div_eq_of_lt (by rw [Nat.sub_zero]; exact hlt)
    have hq := pdivQ n j 0 (by omega)
    rw [hq0, Nat.mul_zero, Nat.zero_add] at hq
    have how := own_eq j n 0 (by omega)
    have ht : n / 10 ^ (j - 1 - 0) % 10 < 10 := Nat.mod_lt _ (by omega)
    obtain ⟨o, ho⟩ : ∃ o, o = n / 10 ^ (j - 1 - 0) % 10 := ⟨_, rfl⟩
    rw [← ho] at how ht hq
    have hlb : 0 ≤ lessb d o ∧ lessb d o ≤ 1 := by unfold lessb; split <;> omega
    by_cases hz : n = 0
    · subst hz
      have e0 : o = 0 := by rw [ho]; simp
      subst e0
      have hj1 : j = 1 := by rw [hjn, Lib.nDigits_small (by omega)]
      subst hj1
      have el : lessb d 0 = 0 := by unfold lessb; rw [if_neg (by omega)]
      refine ev_succ ?_
      simp only [impl_without.l1]
      rw [T_size, how, bitL, el]
      refine ev_pos (by omega) (ev_pos (by omega) (ev_pos (by omega) ?_))
      simp only [Option.bind_some]
      refine ev_pos (by omega) (ev_succ ?_)
      simp only [impl_without.j2]
      rw [bitD]
      simp only [Option.bind_some]
      by_cases c : d = 0
      · subst c
        refine ev_pos rfl (ev_pos rfl (ev_eq fun _ => ?_))
        have e1 : mx (wrap64 (((0 : Nat) : Int) - 1)) 0 = 0 := by rw [wrap_of (by omega) (by omega)]; unfold mx; omega
        have e2 : (if (0 : Nat) = 0 then fewer 0 (1 - 1) else 0) = 0 := by simp [fewer]
        have e3 : cb 0 = 0 := rfl
        rw [wb_one, e1, e2, e3, Int.zero_mul, w0, Int.zero_add, w0, Int.sub_zero, w0]
      · rw [if_neg c]
        refine ev_neg (by simp; omega) (ev_neg (by simp; omega) (ev_succ ?_))
        simp only [impl_without.l1]
        rw [bitD]
        simp only [Option.bind_some]
        have ec : cb d = 1 := by unfold cb; rw [if_neg c]
        rw [wrap_nat (i := 0) (by omega), ec]
        refine ev_neg (by omega) (ev_eq fun _ => ?_)
        have e1 : wrap64 (((0 : Nat) : Int) - 0) = 0 := by rw [wrap_of (by omega) (by omega)]; rfl
        rw [wb_one, e1, Int.zero_mul, w0, Int.zero_add, w0, wrap_of (x := (0 : Int) + 1) (by omega) (by omega), wrap_of (by omega) (by omega)]; rfl
    · have hpos : 0 < n := by omega
      have htop := top_pos n j hjn hpos 1 (by omega) (by omega)
      rw [show j - 1 = j - 1 - 0 by omega, hq] at htop
      obtain ⟨p, rfl⟩ : ∃ p, o = p + 1 := ⟨o - 1, by omega⟩
      have hf := wb_first (j - 1) d hd p (by omega)
      have hle : 10 ^ (j - 1) * (p + 1) ≤ 10 ^ 14 := by
        have h2 := Nat.mul_le_mul_left (10 ^ (j - 1)) (show p + 1 ≤ 10 by omega)
        rw [← Nat.pow_succ] at h2
        exact Nat.le_trans h2 (Nat.pow_le_pow_right (by omega) (by omega))
      have hw := wb_bd d _ hle
      have hstop : p + 1 = d → wb d (n + 1) = wb d (10 ^ (j - 1) * (p + 1)) := fun c => by
        have h5 := stop_eq n j 0 d (by omega) (by rw [hq0, ← ho]; omega) (by rw [hq0, Nat.mul_zero, Nat.zero_add, ← ho, hasD_small ht]; simpa using c)
        rw [hq0, Nat.mul_zero, Nat.zero_add, ← ho, Nat.sub_zero] at h5
        exact h5
      have hgo : p + 1 ≠ d → Ev (fun k => impl_without.l1 k (d : Int) (mkT j n) (wb d (10 ^ (j - 1) * (p + 1)) + cb d) (wrap64 (Int.tdiv ((9 : Int) ^ (j - 1)) 9)) (j : Int) ((0 + 1 : Nat) : Int)) (wb d (n + 1)) := fun c => by
        have h5 := iwo_l1 n d j hlt hj hjn hpos hd (j - 1) 1 (by omega) (by omega) (by
          rw [show j - 1 = j - 1 - 0 by omega, hq, hasD_small ht]; simpa using c)
        rw [show n / 10 ^ (j - 1) = p + 1 by rw [← hq]; rfl] at h5
        have e3 : wrap64 (Int.tdiv ((9 : Int) ^ (j - 1)) 9) = if 1 < j then 9 ^ (j - 1 - 1) else 0 := by
          by_cases c2 : 1 < j
          · rw [if_pos c2]
            have := p9_div (j - 1 - 1) (by omega)
            rw [show j - 1 - 1 + 1 = j - 1 by omega] at this
            exact this
          · rw [if_neg c2, show j - 1 = 0 by omega]; exact t19
        rw [e3]
        exact h5
      refine ev_succ ?_
      simp only [impl_without.l1]
      rw [T_size, how, bitL]
      refine ev_pos (by omega) (ev_pos (by omega) (ev_pos (by omega) ?_))
      simp only [Option.bind_some]
      refine ev_pos (by omega) (ev_succ ?_)
      simp only [impl_without.j2]
      rw [bitD]
      simp only [Option.bind_some]
      by_cases c : d = 0
      · subst c
        rw [if_neg (by omega)] at hf
        have ec : cb 0 = 0 := rfl
        have hm := mul9 (p : Int) (j - 1) (by omega) (by omega) (by omega)
        rw [if_pos rfl]
        have e1 : mx (wrap64 (((p + 1 : Nat) : Int) - 1)) 0 = (p : Int) := by
          rw [wrap_of (by omega) (by omega)]; unfold mx; omega
        rw [e1, wrap_of (x := (p : Int) * 9 ^ (j - 1)) (by omega) (by omega), wrap_of (x := fewer 0 (j - 1) + (p : Int) * 9 ^ (j - 1)) (by omega) (by omega)]
        have e2 : fewer 0 (j - 1) + (p : Int) * 9 ^ (j - 1) = wb 0 (10 ^ (j - 1) * (p + 1)) + cb 0 := by rw [hf, ec, Int.sub_zero]; omega
        rw [e2, wrap_nat (by omega)]
        refine ev_pos rfl (ev_neg (by omega) (hgo (by omega)))
      · rw [if_neg c]
        have ec : cb d = 1 := by unfold cb; rw [if_neg c]
        have hm := mul9 (((p + 1 : Nat) : Int) - lessb d (p + 1)) (j - 1) (by omega) (by omega) (by omega)
        rw [wrap_of (x := ((p + 1 : Nat) : Int) - lessb d (p + 1)) (by omega) (by omega), wrap_of (x := (((p + 1 : Nat) : Int) - lessb d (p + 1)) * 9 ^ (j - 1)) (by omega) (by omega),
          wrap_of (x := 0 + (((p + 1 : Nat) : Int) - lessb d (p + 1)) * 9 ^ (j - 1)) (by omega) (by omega)]
        have e2 : 0 + (((p + 1 : Nat) : Int) - lessb d (p + 1)) * 9 ^ (j - 1) = wb d (10 ^ (j - 1) * (p + 1)) + cb d := by
          have el : lessb d (p + 1) = if 1 ≤ d ∧ d ≤ p then 1 else 0 := by
            unfold lessb
            by_cases c2 : d < p + 1
            · rw [if_pos c2, if_pos (by omega)]
            · rw [if_neg c2, if_neg (by omega)]
          rw [hf, ec, fewer_pos d c, el]
          generalize (if 1 ≤ d ∧ d ≤ p then (1 : Int) else 0) = v
          generalize (9 : Int) ^ (j - 1) = z
          have e5 : ((p + 1 : Nat) : Int) - v = ((p : Int) - v) + 1 := by omega
          rw [e5, Int.add_mul]; omega
        rw [e2, wrap_nat (by omega)]
        refine ev_neg (by simp; omega) ?_
        by_cases c2 : p + 1 = d
        · refine ev_pos (by omega) (ev_eq fun _ => ?_)
          rw [wrap_of (by omega) (by omega), hstop c2]; congr 1; omega
        · exact ev_neg (by omega) (hgo c2)
  have ew : wrap64 (((mkT j n).size : Int) - 1) = ((j - 1 : Nat) : Int) := by rw [T_size, wrap_of (by omega) (by omega)]; omega
  rw [ew]
  have st := iwo_l0 n d j hj (wb d (n + 1)) h1j main (j - 1) 0 (by omega)
  have e0 : (if d = 0 then fewer d 0 else 0) = 0 := by simp [fewer]
  rw [e0, Int.pow_zero] at st
  exact st

/-! ### counters without a digit -/
theorem index_one_iff (c : UInt8) : ∀ s : List UInt8, 0 ≤ Lib.index s [c] ↔ s.any (· == c) = true
  | [] => by simp [Lib.index]
  | b :: l => by
    have ih := index_one_iff c l
    have hg := Lib.index_ge l [c]
    have e : [c].isPrefixOf (b :: l) = (b == c) := by
      simp [List.isPrefixOf]; exact Bool.beq_comm
    rw [Lib.index, e, List.any_cons, Bool.or_eq_true, ← ih]
    cases hb : (b == c) with
    | true => simp
    | false =>
      by_cases h : Lib.index l [c] = -1
      · rw [h]; simp
      · have : (Lib.index l [c] == -1) = false := by simpa using h
        rw [this]
        simp only [Bool.false_eq_true, if_false]; omega
theorem contains_one (s : List UInt8) (c : UInt8) : Lib.contains s [c] = s.any (· == c) := by
  unfold Lib.contains
  rw [Bool.eq_iff_iff, decide_eq_true_eq]
  exact index_one_iff c s
theorem dch_inj {a b : Nat} (ha : a < 10) (hb : b < 10) : (dch a == dch b) = (a == b) := by
  rw [Bool.eq_iff_iff, beq_iff_eq, beq_iff_eq]
  constructor
  · intro h; have := congrArg UInt8.toNat h; rw [dch_nat ha, dch_nat hb] at this; omega
  · rintro rfl; rfl
theorem dec_any (d : Nat) (hd : d < 10) (n : Nat) : (Lib.decDigits n).any (· == dch d) = hasD d n := by
  induction n using Nat.strongRecOn with
  | _ n ih =>
    by_cases h : n < 10
    · rw [Lib.decDigits, dif_pos h, hasD_small h]
      have : UInt8.ofNat (48 + n) = dch n := rfl
      rw [this]
      simp only [List.any_cons, List.any_nil, Bool.or_false]
      exact dch_inj h hd
    · rw [Lib.decDigits, dif_neg h, hasD, dif_neg h, List.any_append, ih (n / 10) (by omega)]
      have : UInt8.ofNat (48 + n % 10) = dch (n % 10) := rfl
      rw [this]
      simp only [List.any_cons, List.any_nil, Bool.or_false]
      rw [dch_inj (Nat.mod_lt _ (by omega)) hd, Bool.or_comm]
theorem dec_one (d : Nat) (hd : d < 10) : Lib.decDigits d = [dch d] := by rw [Lib.decDigits, dif_pos hd]; rfl
theorem isDigit_eq (d : Int) : impl_isDigit.f d = some (decide (0 ≤ d ∧ d ≤ 9)) := by unfold impl_isDigit.f; rw [within_eq]; rfl
theorem diDigit_eq (d : Int) : spec_diDigit.f d = some (decide (0 ≤ d ∧ d ≤ 9)) := by unfold spec_diDigit.f; rw [l1In_eq]; rfl
def goodN (n : Int) : Bool := decide (0 ≤ n ∧ n ≤ 1000000000000)
theorem isWritten_eq (n : Int) : impl_isWritten.f n = some (goodN n) := by unfold impl_isWritten.f; rw [within_eq]; rfl
theorem diGood_eq (n : Int) : spec_diGood.f n = some (goodN n) := by unfold spec_diGood.f; rw [l1In_eq]; rfl
theorem goodN_iff {n : Int} : goodN n = true ↔ 0 ≤ n ∧ n ≤ 1000000000000 := by unfold goodN; simp
/-- how many from 1 up to n are without d; whether both are right -/
def cwG (n d : Int) : Int × Bool := if 0 ≤ n ∧ n ≤ 1000000000000 ∧ 0 ≤ d ∧ d ≤ 9 then (wb d.toNat (n.toNat + 1), true) else (0, false)
theorem cwG_in {n d : Nat} (hn : n ≤ 1000000000000) (hd : d < 10) : cwG (n : Int) (d : Int) = (wb d (n + 1), true) := by
  unfold cwG
  rw [if_pos (by omega), Int.toNat_natCast, Int.toNat_natCast]
theorem nat_of {n : Int} (h : 0 ≤ n) : ∃ m : Nat, n = (m : Int) := ⟨n.toNat, by omega⟩
theorem iCW_ev (n d : Int) : Ev (fun k => impl_CountWithout.f k n d) (cwG n d) := by
  unfold impl_CountWithout.f
  refine ev_bind (isWritten_eq n) ?_
  by_cases g : goodN n = true
  · have hn := goodN_iff.mp g
    refine ev_pos g (ev_bind (isDigit_eq d) ?_)
    by_cases c : 0 ≤ d ∧ d ≤ 9
    · obtain ⟨m, rfl⟩ := nat_of hn.1
      obtain ⟨q, rfl⟩ := nat_of c.1
      rw [cwG_in (by omega) (by omega)]
      exact ev_pos (decide_eq_true c) (Ev.bind (iwo_ev m q (by omega) (by omega)) (ev_eq fun _ => rfl))
    · unfold cwG; rw [if_neg (by omega)]
      exact ev_neg (by simpa using c) (ev_eq fun _ => rfl)
  · have hn := fun h => g (goodN_iff.mpr h)
    unfold cwG; rw [if_neg (fun h => hn ⟨h.1, h.2.1⟩)]
    exact ev_neg g (ev_eq fun _ => rfl)
theorem sCW_ev (n d : Int) : Ev (fun k => spec_CountWithout.f k n d) (cwG n d) := by
  unfold spec_CountWithout.f
  refine ev_bind (diGood_eq n) ?_
  by_cases g : goodN n = true
  · have hn := goodN_iff.mp g
    refine ev_pos g (ev_bind (diDigit_eq d) ?_)
    by_cases c : 0 ≤ d ∧ d ≤ 9
    · obtain ⟨m, rfl⟩ := nat_of hn.1
      obtain ⟨q, rfl⟩ := nat_of c.1
      rw [cwG_in (by omega) (by omega)]
      exact ev_pos (decide_eq_true c) (Ev.bind (swo_ev m q (by omega) (by omega)) (ev_eq fun _ => rfl))
    · unfold cwG; rw [if_neg (by omega)]
      exact ev_neg (by simpa using c) (ev_eq fun _ => rfl)
  · have hn := fun h => g (goodN_iff.mpr h)
    unfold cwG; rw [if_neg (fun h => hn ⟨h.1, h.2.1⟩)]
    exact ev_neg g (ev_eq fun _ => rfl)
def ccG (n d : Int) : Int × Bool := if 1 ≤ n ∧ n ≤ 1000000000000 ∧ 0 ≤ d ∧ d ≤ 9 ∧ hasD d.toNat n.toNat = false then (wb d.toNat (n.toNat + 1), true) else (0, false)
theorem ccG_in {n d : Nat} (h1 : 1 ≤ n) (hn : n ≤ 1000000000000) (hd : d < 10) (h : hasD d n = false) : ccG (n : Int) (d : Int) = (wb d (n + 1), true) := by
  unfold ccG
  rw [Int.toNat_natCast, Int.toNat_natCast, if_pos (by refine ⟨by omega, by omega, by omega, by omega, h⟩)]
theorem ccG_has {n d : Nat} (h : hasD d n = true) : ccG (n : Int) (d : Int) = (0, false) := by
  unfold ccG
  rw [Int.toNat_natCast, Int.toNat_natCast, if_neg (fun g => by rw [h] at g; exact Bool.noConfusion g.2.2.2.2)]
theorem iCC_ev (n d : Int) : Ev (fun k => impl_CountOfCounter.f k n d) (ccG n d) := by
  unfold impl_CountOfCounter.f
  rw [within_eq]
  by_cases g : 1 ≤ n ∧ n ≤ 1000000000000
  · refine ev_pos (decide_eq_true g) (ev_bind (isDigit_eq d) ?_)
    by_cases c : 0 ≤ d ∧ d ≤ 9
    · obtain ⟨m, rfl⟩ := nat_of (show 0 ≤ n by omega)
      obtain ⟨q, rfl⟩ := nat_of c.1
      refine ev_pos (decide_eq_true c) (ev_bind (itoa_nat m (by omega)) (ev_bind (itoa_nat q (by omega)) ?_))
      have hm := nDig_le m 13 (by omega) (by omega)
      have e : strings_Contains.f (⟨(Lib.decDigits m).toArray⟩ : ByteArray) (⟨(Lib.decDigits q).toArray⟩ : ByteArray) = some (hasD q m) := by
        unfold strings_Contains.f
        rw [mk_size, Lib.decDigits_length, if_pos (by omega), list_of, list_of, dec_one q (by omega), contains_one, dec_any q (by omega)]
      refine ev_bind e ?_
      cases h : hasD q m with
      | true => rw [ccG_has h]; exact ev_pos rfl (ev_eq fun _ => rfl)
      | false =>
        rw [ccG_in (by omega) (by omega) (by omega) h]
        exact ev_neg (by decide) (Ev.bind (iwo_ev m q (by omega) (by omega)) (ev_eq fun _ => rfl))
    · unfold ccG; rw [if_neg (fun h => c ⟨h.2.2.1, h.2.2.2.1⟩)]
      exact ev_neg (by simpa using c) (ev_eq fun _ => rfl)
  · unfold ccG; rw [if_neg (fun h => g ⟨h.1, h.2.1⟩)]
    exact ev_neg (by simpa using g) (ev_eq fun _ => rfl)
theorem sCC_ev (n d : Int) : Ev (fun k => spec_CountOfCounter.f k n d) (ccG n d) := by
  unfold spec_CountOfCounter.f
  rw [l1In_eq]
  by_cases g : 1 ≤ n ∧ n ≤ 1000000000000
  · refine ev_pos (decide_eq_true g) (ev_bind (diDigit_eq d) ?_)
    by_cases c : 0 ≤ d ∧ d ≤ 9
    · obtain ⟨m, rfl⟩ := nat_of (show 0 ≤ n by omega)
      obtain ⟨q, rfl⟩ := nat_of c.1
      obtain ⟨p, rfl⟩ : ∃ p, m = p + 1 := ⟨m - 1, by omega⟩
      have e1 : wrap64 (((p + 1 : Nat) : Int) - 1) = (p : Int) := by rw [wrap_of (by omega) (by omega)]; omega
      rw [e1]
      have s1 := swo_ev (p + 1) q (by omega) (by omega)
      have s2 := swo_ev p q (by omega) (by omega)
      refine ev_pos (decide_eq_true c) (Ev.bind s1 (Ev.bind s2 ?_))
      cases h : hasD q (p + 1) with
      | true => rw [ccG_has h]; exact ev_pos (wb_miss h) (ev_eq fun _ => rfl)
      | false =>
        rw [ccG_in (by omega) (by omega) (by omega) h]
        exact ev_neg (by rw [wb_hit (by omega) h]; omega) (Ev.bind s1 (ev_eq fun _ => rfl))
    · unfold ccG; rw [if_neg (fun h => c ⟨h.2.2.1, h.2.2.2.1⟩)]
      exact ev_neg (by simpa using c) (ev_eq fun _ => rfl)
  · unfold ccG; rw [if_neg (fun h => g ⟨h.1, h.2.1⟩)]
    exact ev_neg (by simpa using g) (ev_eq fun _ => rfl)
/-- the least number up to which so many are without a digit -/
def csP (c : Int) (d m : Nat) : Prop := 1 ≤ m ∧ m ≤ 1000000000000 ∧ wb d m < c ∧ c ≤ wb d (m + 1)
theorem cs_uniq {c : Int} {d x y : Nat} (h : csP c d x) (g : csP c d y) : x = y := by
  obtain ⟨_, _, h3, h4⟩ := h
  obtain ⟨_, _, g3, g4⟩ := g
  rcases Nat.lt_trichotomy x y with e | e | e
  · have := wb_mono d (show x + 1 ≤ y by omega); omega
  · exact e
  · have := wb_mono d (show y + 1 ≤ x by omega); omega
theorem cs_facts {c : Int} {d m : Nat} (h : csP c d m) : hasD d m = false ∧ wb d (m + 1) = c ∧ c ≤ m := by
  obtain ⟨h1, h2, h3, h4⟩ := h
  have hl := wb_le d m
  cases e : hasD d m with
  | true => rw [wb_miss e] at h4; omega
  | false => have := wb_hit (show 0 < m by omega) e; exact ⟨rfl, by omega, by omega⟩
theorem wb_top (d T : Nat) (hd : d < 10) (hT : 100000000 ≤ T) : 1000000 ≤ wb d T := by
  have h1 := wb_mono d hT
  have h2 := fewer_eq d hd 8
  have e8 : (10 : Nat) ^ 8 = 100000000 := by decide
  rw [e8] at h2
  have h3 : 1000000 ≤ fewer d 8 := by
    by_cases c : d = 0
    · subst c; decide
    · rw [fewer_pos d c]; decide
  rw [h2] at h1
  exact Int.le_trans h3 h1
theorem iCS_ev (c : Int) (d : Nat) (hc : 1 ≤ c) (hc2 : c ≤ 1000000) (hd : d < 10) : ∃ m, csP c d m ∧ Ev (fun k => impl_CounterShows.f k c (d : Int)) ((m : Int), true) := by
  obtain ⟨r, hr, h1, h2, h3, h4⟩ := least_ev (fun k => impl_CounterShows.p k (d : Int) c) (fun x => decide (0 ≤ x ∧ wb d (x.toNat + 1) ≥ c)) (fun x y h hx => by
      simp only [decide_eq_true_eq] at hx ⊢
      have := wb_mono d (show x.toNat + 1 ≤ y.toNat + 1 by omega)
      exact ⟨by omega, Int.le_trans hx.2 this⟩) 1 1000000000001 (by decide) (by decide) (by decide) (fun x g1 g2 => by
      obtain ⟨n, rfl⟩ := nat_of (show 0 ≤ x by omega)
      unfold impl_CounterShows.p
      refine Ev.bind (iwo_ev n d (by omega) hd) (ev_eq fun _ => ?_)
      rw [Int.toNat_natCast]
      congr 1
      rw [decide_eq_decide]
      exact ⟨fun h => ⟨by omega, h⟩, fun h => h.2⟩)
  obtain ⟨m, rfl⟩ := nat_of (show 0 ≤ r by omega)
  have hm : m < 1000000000001 := by
    by_cases e : m = 1000000000001
    · exfalso
      have h5 := h3 100000000 (by decide) (by omega)
      rw [decide_eq_false_iff_not] at h5
      exact h5 ⟨by decide, Int.le_trans hc2 (wb_top d _ hd (by decide))⟩
    · omega
  have h5 := h4 (by omega)
  rw [decide_eq_true_eq, Int.toNat_natCast] at h5
  refine ⟨m, ⟨by omega, by omega, ?_, h5.2⟩, ?_⟩
  · by_cases e : m = 1
    · rw [e, wb_one]; omega
    · have h6 := h3 ((m : Int) - 1) (by omega) (by omega)
      rw [decide_eq_false_iff_not, show ((m : Int) - 1).toNat + 1 = m by omega] at h6
      rcases Int.lt_or_le (wb d m) c with q | q
      · exact q
      · exact absurd ⟨by omega, q⟩ h6
  · unfold impl_CounterShows.f
    rw [within_eq]
    refine ev_pos (decide_eq_true ⟨hc, hc2⟩) (ev_bind (isDigit_eq _) (ev_pos (decide_eq_true ⟨by omega, by omega⟩) ?_))
    rw [wrap_of (x := 1000000000000 + 1) (by decide) (by decide)]
    exact Ev.bind hr (ev_eq fun _ => rfl)
theorem sCS_base (c : Int) (d lo : Nat) (h1 : 1 ≤ lo) (hN : lo ≤ 1000000000000) (g1 : wb d lo < c) (g2 : c ≤ wb d (lo + 1)) : ∃ m, csP c d m ∧ Ev (fun k => spec_CounterShows.l0 k c (d : Int) (lo : Int) (lo : Int)) ((m : Int), true) := by
  refine ⟨lo, ⟨h1, hN, g1, g2⟩, ev_succ ?_⟩
  simp only [spec_CounterShows.l0]
  exact ev_neg (by omega) (ev_eq fun _ => rfl)
theorem sCS_step1 (c : Int) (d lo hi q x : Nat) (hd : d < 10) (hlt : lo < hi) (hq : q < 10 ^ 13) (em : wrap64 (Int.tdiv (wrap64 ((lo : Int) + hi)) 2) = (q : Int)) (cw : wb d (q + 1) ≥ c)
    (he : Ev (fun k => spec_CounterShows.l0 k c (d : Int) (lo : Int) (q : Int)) ((x : Int), true)) : Ev (fun k => spec_CounterShows.l0 k c (d : Int) (lo : Int) (hi : Int)) ((x : Int), true) := by
  refine ev_succ ?_
  simp only [spec_CounterShows.l0]
  rw [em]
  exact ev_pos (Int.ofNat_lt.mpr hlt) (Ev.bind (swo_ev q d hq hd) (ev_pos cw he))
theorem sCS_step2 (c : Int) (d lo hi q x : Nat) (hd : d < 10) (hlt : lo < hi) (hq : q < 10 ^ 13) (em : wrap64 (Int.tdiv (wrap64 ((lo : Int) + hi)) 2) = (q : Int)) (cw : ¬ wb d (q + 1) ≥ c)
    (he : Ev (fun k => spec_CounterShows.l0 k c (d : Int) ((q + 1 : Nat) : Int) (hi : Int)) ((x : Int), true)) : Ev (fun k => spec_CounterShows.l0 k c (d : Int) (lo : Int) (hi : Int)) ((x : Int), true) := by
  have ew : wrap64 ((q : Int) + 1) = ((q + 1 : Nat) : Int) := wrap_nat (by omega)
  refine ev_succ ?_
  simp only [spec_CounterShows.l0]
  rw [em, ew]
  exact ev_pos (Int.ofNat_lt.mpr hlt) (Ev.bind (swo_ev q d hq hd) (ev_neg cw he))
theorem sCS_loop (c : Int) (d : Nat) (hd : d < 10) : ∀ (f lo hi : Nat), hi - lo ≤ f → 1 ≤ lo → lo ≤ hi → hi ≤ 1000000000000 → wb d lo < c → c ≤ wb d (hi + 1) →
    ∃ m, csP c d m ∧ Ev (fun k => spec_CounterShows.l0 k c (d : Int) (lo : Int) (hi : Int)) ((m : Int), true) := by
  intro f
  induction f with
  | zero =>
    intro lo hi hf h1 hle hN g1 g2
    have e : lo = hi := by clear g1 g2; omega
    subst e
    exact sCS_base c d lo h1 hN g1 g2
  | succ f ih =>
    intro lo hi hf h1 hle hN g1 g2
    by_cases cc : lo < hi
    · obtain ⟨q, em, hq⟩ := mid_eq lo hi hle (by clear g1 g2; omega)
      have q1 : q < 10 ^ 13 := by clear g1 g2 em; omega
      have q2 : q - lo ≤ f ∧ lo ≤ q ∧ q ≤ 1000000000000 ∧ hi - (q + 1) ≤ f ∧ 1 ≤ q + 1 ∧ q + 1 ≤ hi := by clear g1 g2 em q1; omega
      by_cases cw : wb d (q + 1) ≥ c
      · obtain ⟨x, hx, he⟩ := ih lo q q2.1 h1 q2.2.1 q2.2.2.1 g1 cw
        exact ⟨x, hx, sCS_step1 c d lo hi q x hd cc q1 em cw he⟩
      · obtain ⟨x, hx, he⟩ := ih (q + 1) hi q2.2.2.2.1 q2.2.2.2.2.1 q2.2.2.2.2.2 hN (Int.not_le.mp cw) g2
        exact ⟨x, hx, sCS_step2 c d lo hi q x hd cc q1 em cw he⟩
    · have e : lo = hi := by clear g1 g2; omega
      subst e
      exact sCS_base c d lo h1 hN g1 g2
theorem sCS_ev (c : Int) (d : Nat) (hc : 1 ≤ c) (hc2 : c ≤ 1000000) (hd : d < 10) : ∃ m, csP c d m ∧ Ev (fun k => spec_CounterShows.f k c (d : Int)) ((m : Int), true) := by
  obtain ⟨N, hN⟩ : ∃ N : Nat, N = 1000000000000 := ⟨_, rfl⟩
  have hNi : (1000000000000 : Int) = (N : Int) := by omega
  have ht := wb_top d (N + 1) hd (by omega)
  have hone := wb_one d
  obtain ⟨m, hm, he⟩ := sCS_loop c d hd N 1 N (by omega) (by omega) (by omega) (by omega) (by rw [hone]; omega) (Int.le_trans hc2 ht)
  refine ⟨m, hm, ?_⟩
  unfold spec_CounterShows.f
  rw [l1In_eq]
  refine ev_pos (decide_eq_true ⟨hc, hc2⟩) (ev_bind (diDigit_eq _) (ev_succ ?_))
  simp only [spec_CounterShows.j0]
  rw [hNi]
  exact ev_neg (by simp; omega) he
theorem cs_both (c d : Int) : (Ev (fun k => impl_CounterShows.f k c d) (0, false) ∧ Ev (fun k => spec_CounterShows.f k c d) (0, false)) ∨
    (1 ≤ c ∧ ∃ q m : Nat, d = (q : Int) ∧ q < 10 ∧ csP c q m ∧ Ev (fun k => impl_CounterShows.f k c d) ((m : Int), true) ∧ Ev (fun k => spec_CounterShows.f k c d) ((m : Int), true)) := by
  by_cases hc : 1 ≤ c ∧ c ≤ 1000000
  · by_cases hd : 0 ≤ d ∧ d ≤ 9
    · obtain ⟨q, rfl⟩ := nat_of hd.1
      obtain ⟨m, hm, h1⟩ := iCS_ev c q hc.1 hc.2 (by omega)
      obtain ⟨p, hp, h2⟩ := sCS_ev c q hc.1 hc.2 (by omega)
      obtain rfl := cs_uniq hm hp
      exact .inr ⟨hc.1, q, m, rfl, by omega, hm, h1, h2⟩
    · refine .inl ⟨?_, ?_⟩
      · unfold impl_CounterShows.f
        rw [within_eq]
        exact ev_pos (decide_eq_true hc) (ev_bind (isDigit_eq _) (ev_neg (by simpa using hd) (ev_eq fun _ => rfl)))
      · unfold spec_CounterShows.f
        rw [l1In_eq]
        refine ev_pos (decide_eq_true hc) (ev_bind (diDigit_eq _) (ev_succ ?_))
        simp only [spec_CounterShows.j0]
        exact ev_pos (by simp; omega) (ev_eq fun _ => rfl)
  · refine .inl ⟨?_, ?_⟩
    · unfold impl_CounterShows.f
      rw [within_eq]
      exact ev_neg (by simpa using hc) (ev_eq fun _ => rfl)
    · unfold spec_CounterShows.f
      rw [l1In_eq]
      refine ev_neg (by simpa using hc) (ev_succ ?_)
      simp only [spec_CounterShows.j0]
      exact ev_pos trivial (ev_eq fun _ => rfl)

/-! ### roots, products, ends -/
def pt (n : Nat) : Nat → Nat
  | 0 => 1
  | d + 1 => n / 10 ^ d % 10 * pt n d
theorem pt_cons (n : Nat) : ∀ d, pt n (d + 1) = n % 10 * pt (n / 10) d := by
  intro d
  induction d with
  | zero => simp [pt]
  | succ d ih =>
    rw [pt, ih, pt, Nat.div_div_eq_div_mul, Nat.pow_succ, Nat.mul_comm (10 ^ d) 10]
    rw [Nat.mul_left_comm]
theorem pt_pr (n : Nat) : pt n (Lib.nDigits n) = pr n := by
  induction n using Nat.strongRecOn with
  | _ n ih =>
    by_cases h : n < 10
    · rw [Lib.nDigits_small h, pr_small h, pt_cons]; simp [pt]; omega
    · rw [Lib.nDigits_big h, pr_step (by omega), pt_cons, ih _ (by omega)]
theorem iprod_loop (n j : Nat) (hn : n < 10 ^ j) (hj : j ≤ 13) : ∀ (e i : Nat) (o : Int), i + e = j → 0 ≤ o → o ≤ 9 ^ i →
    Ev (fun k => impl_digitProduct.l0 k (bytesOf (mkT j n)) o (i : Int)) (o * (pt n e : Int)) := by
  have hl : (bytesOf (mkT j n)).length = j := by rw [bytesOf_length, T_size]
  intro e
  induction e with
  | zero =>
    intro i o hi h0 h9
    refine ev_succ ?_
    simp only [impl_digitProduct.l0]
    rw [hl]
    exact ev_neg (by omega) (ev_eq fun _ => by simp [pt])
  | succ e ih =>
    intro i o hi h0 h9
    have how := own_eq j n i (by omega)
    have ht : n / 10 ^ (j - 1 - i) % 10 < 10 := Nat.mod_lt _ (by omega)
    have he : n / 10 ^ (j - 1 - i) % 10 = n / 10 ^ e % 10 := by rw [show j - 1 - i = e by omega]
    refine ev_succ ?_
    simp only [impl_digitProduct.l0]
    rw [hl, rd_bytesOf, how, he, wrap_nat (by omega)]
    rw [he] at ht
    have h1 := p9_le (i + 1) (by omega)
    rw [Int.pow_succ] at h1
    have h2 : o * ((n / 10 ^ e % 10 : Nat) : Int) ≤ 9 ^ i * 9 := Int.mul_le_mul h9 (by omega) (by omega) (by have := p9_pos i; omega)
    have h3 : 0 ≤ o * ((n / 10 ^ e % 10 : Nat) : Int) := Int.mul_nonneg h0 (by omega)
    rw [wrap_of (by omega) (by omega)]
    refine ev_pos (by omega) (ev_pos (by omega) ?_)
    have h4 := ih (i + 1) _ (by omega) h3 (by rw [Int.pow_succ]; exact h2)
    rw [Int.mul_assoc] at h4
    rw [pt, Int.natCast_mul]
    exact h4
theorem idigitProduct_ev (n : Nat) (hn : n < 10 ^ 13) : Ev (fun k => impl_digitProduct.f k (n : Int)) (pr n : Int) := by
  unfold impl_digitProduct.f
  refine ev_bind (itoa_nat n (by omega)) ?_
  rw [dec_T]
  have hj := nDig_le n 13 (by omega) hn
  refine ev_pos (by rw [T_size]; omega) ?_
  have h := iprod_loop n _ (Lib.lt_pow_nDigits n) hj (Lib.nDigits n) 0 1 (by omega) (by omega) (by simp)
  rw [pt_pr, Int.one_mul] at h
  exact h
theorem sprod_loop (n j : Nat) (hn : n < 10 ^ j) (hj : j ≤ 13) : ∀ (e i : Nat) (o : Int), i + e = j → 0 ≤ o → o ≤ 9 ^ i →
    Ev (fun k => spec_diProduct.l0 k (bytesOf (mkT j n)) o (i : Int)) (o * (pt n e : Int)) := by
  have hl : (bytesOf (mkT j n)).length = j := by rw [bytesOf_length, T_size]
  intro e
  induction e with
  | zero =>
    intro i o hi h0 h9
    refine ev_succ ?_
    simp only [spec_diProduct.l0]
    rw [hl]
    exact ev_neg (by omega) (ev_eq fun _ => by simp [pt])
  | succ e ih =>
    intro i o hi h0 h9
    have how := own_eq j n i (by omega)
    have ht : n / 10 ^ (j - 1 - i) % 10 < 10 := Nat.mod_lt _ (by omega)
    have he : n / 10 ^ (j - 1 - i) % 10 = n / 10 ^ e % 10 := by rw [show j - 1 - i = e by omega]
    refine ev_succ ?_
    simp only [spec_diProduct.l0]
    rw [hl, rd_bytesOf, how, he, wrap_nat (by omega)]
    rw [he] at ht
    have h1 := p9_le (i + 1) (by omega)
    rw [Int.pow_succ] at h1
    have h2 : o * ((n / 10 ^ e % 10 : Nat) : Int) ≤ 9 ^ i * 9 := Int.mul_le_mul h9 (by omega) (by omega) (by have := p9_pos i; omega)
    have h3 : 0 ≤ o * ((n / 10 ^ e % 10 : Nat) : Int) := Int.mul_nonneg h0 (by omega)
    rw [wrap_of (by omega) (by omega)]
    refine ev_pos (by omega) (ev_pos (by omega) ?_)
    have h4 := ih (i + 1) _ (by omega) h3 (by rw [Int.pow_succ]; exact h2)
    rw [Int.mul_assoc] at h4
    rw [pt, Int.natCast_mul]
    exact h4
theorem diProduct_ev (n : Nat) (hn : n < 10 ^ 13) : Ev (fun k => spec_diProduct.f k (n : Int)) (pr n : Int) := by
  unfold spec_diProduct.f
  refine Ev.bind (l1Num_ev n (by omega)) ?_
  rw [dec_T]
  have hj := nDig_le n 13 (by omega) hn
  refine ev_pos (by rw [T_size]; omega) ?_
  have h := sprod_loop n _ (Lib.lt_pow_nDigits n) hj (Lib.nDigits n) 0 1 (by omega) (by omega) (by simp)
  rw [pt_pr, Int.one_mul] at h
  exact h
/-- a function taken again and again -/
theorem until_go (g : Nat → Int → Option Int) (F : Nat → Nat) (N : Nat) (hN : N ≤ 10000000000000) (hg : ∀ m, m ≤ N → Ev (fun k => g k (m : Int)) ((F m : Nat) : Int)) (hF : ∀ m, 10 ≤ m → F m < m) :
    ∀ n, n ≤ N → ∃ K, ∀ k c t : Nat, K ≤ k → K ≤ c → t ≤ 20000000000000 → t + n ≤ 20000000000000 → impl_untilOne.go (g k) c (n : Int) (t : Int) = some (((rt F n).1 : Int), ((t + (rt F n).2 : Nat) : Int)) := by
  intro n
  induction n using Nat.strongRecOn with
  | _ n ih =>
    intro hn
    by_cases h : n < 10
    · refine ⟨1, fun k c t _ hc _ _ => ?_⟩
      obtain ⟨c, rfl⟩ : ∃ q, c = q + 1 := ⟨c - 1, by omega⟩
      rw [impl_untilOne.go, if_neg (by omega), rt_small F h]; simp
    · have hl := hF n (by omega)
      obtain ⟨K1, h1⟩ := hg n hn
      obtain ⟨K2, h2⟩ := ih (F n) hl (by omega)
      refine ⟨max K1 (K2 + 1), fun k c t hk hc ht ht2 => ?_⟩
      obtain ⟨c, rfl⟩ : ∃ q, c = q + 1 := ⟨c - 1, by omega⟩
      have h3 := h1 k (by omega)
      dsimp only at h3
      rw [impl_untilOne.go, if_pos (by omega), h3, Option.bind_some, wrap_nat (by omega), h2 k c (t + 1) (by omega) (by omega) (by omega) (by omega), rt_step F (by omega) hl]
      dsimp only
      rw [show t + 1 + (rt F (F n)).2 = t + ((rt F (F n)).2 + 1) by omega]
theorem until_ev (g : Nat → Int → Option Int) (F : Nat → Nat) (N : Nat) (hN : N ≤ 10000000000000) (hg : ∀ m, m ≤ N → Ev (fun k => g k (m : Int)) ((F m : Nat) : Int)) (hF : ∀ m, 10 ≤ m → F m < m) (n : Nat) (hn : n ≤ N) :
    Ev (fun k => impl_untilOne.go (g k) k (n : Int) 0) (((rt F n).1 : Int), ((rt F n).2 : Int)) := by
  obtain ⟨K, h⟩ := until_go g F N hN hg hF n hn
  refine ev_from K (fun k hk => ?_)
  have := h k k 0 hk hk (by omega) (by omega)
  rw [Nat.zero_add] at this
  exact this
theorem dsn_less (m : Nat) (h : 10 ≤ m) : dsn m < m := by have := ds_less m h; have := dsn_eq m; omega
theorem sroot_loop : ∀ n : Nat, n < 10 ^ 13 → ∀ t : Nat, t ≤ 20000000000000 → t + n ≤ 20000000000000 → Ev (fun k => spec_DigitRoot.l0 k (n : Int) (t : Int)) (((rt dsn n).1 : Int), ((t + (rt dsn n).2 : Nat) : Int), true) := by
  intro n
  induction n using Nat.strongRecOn with
  | _ n ih =>
    intro hn t ht ht2
    refine ev_succ ?_
    simp only [spec_DigitRoot.l0]
    by_cases h : n < 10
    · rw [rt_small dsn h]
      exact ev_neg (by omega) (ev_eq fun _ => by simp)
    · have hl := dsn_less n (by omega)
      have hs := diSum_ev n hn
      rw [← dsn_eq] at hs
      refine ev_pos (by omega) (Ev.bind hs ?_)
      rw [wrap_nat (by omega), rt_step dsn (by omega) hl]
      have h2 := ih (dsn n) hl (by omega) (t + 1) (by omega) (by omega)
      dsimp only
      rw [show t + ((rt dsn (dsn n)).2 + 1) = t + 1 + (rt dsn (dsn n)).2 by omega]
      exact h2
theorem send_loop : ∀ n : Nat, n < 10 ^ 13 → ∀ t : Nat, t ≤ 20000000000000 → t + n ≤ 20000000000000 → Ev (fun k => spec_ProductEnd.l0 k (n : Int) (t : Int)) (((rt pr n).1 : Int), ((t + (rt pr n).2 : Nat) : Int), true) := by
  intro n
  induction n using Nat.strongRecOn with
  | _ n ih =>
    intro hn t ht ht2
    refine ev_succ ?_
    simp only [spec_ProductEnd.l0]
    by_cases h : n < 10
    · rw [rt_small pr h]
      exact ev_neg (by omega) (ev_eq fun _ => by simp)
    · have hl := pr_lt n (by omega)
      refine ev_pos (by omega) (Ev.bind (diProduct_ev n hn) ?_)
      rw [wrap_nat (by omega), rt_step pr (by omega) hl]
      have h2 := ih (pr n) hl (by omega) (t + 1) (by omega) (by omega)
      dsimp only
      rw [show t + ((rt pr (pr n)).2 + 1) = t + 1 + (rt pr (pr n)).2 by omega]
      exact h2
/-- the functions, where the number is right -/
theorem iDS_ev (n : Nat) (h : n ≤ 1000000000000) : Ev (fun k => impl_DigitSum.f k (n : Int)) (ds n, true) := by
  unfold impl_DigitSum.f
  exact ev_bind (isWritten_eq _) (ev_pos (goodN_iff.mpr ⟨by omega, by omega⟩) (Ev.bind (idigitSum_ev n (by omega)) (ev_eq fun _ => rfl)))
theorem sDS_ev (n : Nat) (h : n ≤ 1000000000000) : Ev (fun k => spec_DigitSum.f k (n : Int)) (ds n, true) := by
  unfold spec_DigitSum.f
  exact ev_bind (diGood_eq _) (ev_pos (goodN_iff.mpr ⟨by omega, by omega⟩) (Ev.bind (diSum_ev n (by omega)) (ev_eq fun _ => rfl)))
theorem iDR_ev (n : Nat) (h : n ≤ 1000000000000) : Ev (fun k => impl_DigitRoot.f k (n : Int)) (((rt dsn n).1 : Int), ((rt dsn n).2 : Int), true) := by
  unfold impl_DigitRoot.f
  refine ev_bind (isWritten_eq _) (ev_pos (goodN_iff.mpr ⟨by omega, by omega⟩) (Ev.bind (until_ev (fun k x => impl_digitSum.f k x) dsn 1000000000000 (by omega) (fun m hm => ?_) dsn_less n h) (ev_eq fun _ => rfl)))
  rw [dsn_eq]
  exact idigitSum_ev m (by omega)
theorem sDR_ev (n : Nat) (h : n ≤ 1000000000000) : Ev (fun k => spec_DigitRoot.f k (n : Int)) (((rt dsn n).1 : Int), ((rt dsn n).2 : Int), true) := by
  unfold spec_DigitRoot.f
  refine ev_bind (diGood_eq _) (ev_pos (goodN_iff.mpr ⟨by omega, by omega⟩) ?_)
  have := sroot_loop n (by omega) 0 (by omega) (by omega)
  rw [Nat.zero_add] at this
  exact this
theorem iDP_ev (n : Nat) (h : n ≤ 1000000000000) : Ev (fun k => impl_DigitProduct.f k (n : Int)) ((pr n : Int), true) := by
  unfold impl_DigitProduct.f
  exact ev_bind (isWritten_eq _) (ev_pos (goodN_iff.mpr ⟨by omega, by omega⟩) (Ev.bind (idigitProduct_ev n (by omega)) (ev_eq fun _ => rfl)))
theorem sDP_ev (n : Nat) (h : n ≤ 1000000000000) : Ev (fun k => spec_DigitProduct.f k (n : Int)) ((pr n : Int), true) := by
  unfold spec_DigitProduct.f
  exact ev_bind (diGood_eq _) (ev_pos (goodN_iff.mpr ⟨by omega, by omega⟩) (Ev.bind (diProduct_ev n (by omega)) (ev_eq fun _ => rfl)))
theorem iPE_ev (n : Nat) (h : n ≤ 1000000000000) : Ev (fun k => impl_ProductEnd.f k (n : Int)) (((rt pr n).1 : Int), ((rt pr n).2 : Int), true) := by
  unfold impl_ProductEnd.f
  exact ev_bind (isWritten_eq _) (ev_pos (goodN_iff.mpr ⟨by omega, by omega⟩) (Ev.bind (until_ev (fun k x => impl_digitProduct.f k x) pr 1000000000000 (by omega) (fun m hm => idigitProduct_ev m (by omega)) pr_lt n h) (ev_eq fun _ => rfl)))
theorem sPE_ev (n : Nat) (h : n ≤ 1000000000000) : Ev (fun k => spec_ProductEnd.f k (n : Int)) (((rt pr n).1 : Int), ((rt pr n).2 : Int), true) := by
  unfold spec_ProductEnd.f
  refine ev_bind (diGood_eq _) (ev_pos (goodN_iff.mpr ⟨by omega, by omega⟩) ?_)
  have := send_loop n (by omega) 0 (by omega) (by omega)
  rw [Nat.zero_add] at this
  exact this

/-! ### choices out of bytes: each of them is made -/
def Bytes (l : List Int) : Prop := ∀ x ∈ l, (Lit.int .u8 x).wf = true
theorem byte_range {l : List Int} (h : Bytes l) {i : Int} (h0 : 0 ≤ i) (h1 : i < (l.length : Int)) : 0 ≤ rd l i ∧ rd l i ≤ 255 := by
  have hm : rd l i ∈ l := by
    unfold rd
    rw [List.getD_eq_getElem?_getD, List.getElem?_eq_getElem (by omega)]
    exact List.getElem_mem _
  have := h _ hm
  have h2 := by simpa only [Lit.wf, Bool.and_eq_true, decide_eq_true_eq] using this
  exact ⟨h2.1, h2.2⟩
theorem and255 (x : Int) (h0 : 0 ≤ x) (h1 : x < 18446744073709551616) : 0 ≤ Go.bits .and .u64 x 255 ∧ Go.bits .and .u64 x 255 ≤ 255 := by
  obtain ⟨n, rfl⟩ : ∃ n : Nat, x = (n : Int) := ⟨x.toNat, by omega⟩
  have h := bits_and_u64_nat n 255 (by omega) (by omega)
  have h2 := Nat.and_le_right (n := n) (m := 255)
  rw [show ((255 : Nat) : Int) = 255 from rfl] at h
  rw [h]
  omega
theorem u64_range (x : Int) : 0 ≤ IntKind.u64.wrap x ∧ IntKind.u64.wrap x < 18446744073709551616 := by
  rw [IntKind.wrap_u64]; omega
theorem tail255 (x : Int) : ∃ v, wrap64 (Go.bits .and .u64 (IntKind.u64.wrap x / 1099511627776) 255) = v ∧ 0 ≤ v ∧ v ≤ 255 := by
  have h := u64_range x
  have h2 := and255 (IntKind.u64.wrap x / 1099511627776) (by omega) (by omega)
  exact ⟨_, wrap_of (by omega) (by omega), h2.1, h2.2⟩
theorem next_ok (l : List Int) (hl : Bytes l) (a s : Int) (h0 : 0 ≤ a) (h1 : a ≤ 1000000000000) : ∃ v s', spec_l1Cur_next.f l a s = some (v, a + 1, s') ∧ 0 ≤ v ∧ v ≤ 255 := by
  unfold spec_l1Cur_next.f
  have hw : wrap64 (a + 1) = a + 1 := wrap_of (by omega) (by omega)
  rw [hw]
  by_cases c : a < (l.length : Int)
  · have hb := byte_range hl h0 c
    rw [if_pos c, if_pos h0, if_pos (by omega), wrap_of (x := rd l a) (by omega) (by omega)]
    exact ⟨_, _, rfl, hb.1, hb.2⟩
  · rw [if_neg c, if_neg (by omega)]
    obtain ⟨v, hv, g⟩ := tail255 (IntKind.u64.wrap (IntKind.u64.wrap (s * 6364136223846793005)) + 1442695040888963407)
    rw [hv]
    exact ⟨v, _, rfl, g.1, g.2⟩
theorem tmod_range {x n : Int} (h0 : 0 ≤ x) (hn : 0 < n) : 0 ≤ Int.tmod x n ∧ Int.tmod x n < n := by
  rw [Int.tmod_eq_emod_of_nonneg h0]
  exact ⟨Int.emod_nonneg _ (by omega), Int.emod_lt_of_pos _ hn⟩
theorem pick_ok (l : List Int) (hl : Bytes l) (a s n : Int) (h0 : 0 ≤ a) (h1 : a ≤ 900000000000) : ∃ v a' s', spec_l1Cur_pick.f l a s n = some (v, a', s') ∧ 0 ≤ v ∧ (v < n ∨ v = 0) ∧ a ≤ a' ∧ a' ≤ a + 2 := by
  unfold spec_l1Cur_pick.f
  by_cases c : n ≤ 1
  · rw [if_pos c]
    exact ⟨0, a, s, rfl, Int.le_refl 0, .inr rfl, Int.le_refl a, by omega⟩
  · rw [if_neg c]
    obtain ⟨v, s1, hv, v0, v1⟩ := next_ok l hl a s h0 (by omega)
    rw [hv]
    simp only [Option.bind_some]
    by_cases c2 : n > 200
    · rw [if_pos c2]
      obtain ⟨u, s2, hu, u0, u1⟩ := next_ok l hl (a + 1) s1 (by omega) (by omega)
      rw [hu]
      simp only [Option.bind_some]
      rw [if_neg (by omega), wrap_of (x := v * 256) (by omega) (by omega), wrap_of (x := v * 256 + u) (by omega) (by omega)]
      have ht := tmod_range (x := v * 256 + u) (n := n) (by omega) (by omega)
      exact ⟨_, _, _, rfl, ht.1, .inl ht.2, by omega, by omega⟩
    · rw [if_neg c2, if_neg (by omega)]
      have ht := tmod_range (x := v) (n := n) v0 (by omega)
      exact ⟨_, _, _, rfl, ht.1, .inl ht.2, by omega, by omega⟩
theorem among_ok (l : List Int) (hl : Bytes l) (a s : Int) (m : List Int) (hm : 0 < m.length) (h0 : 0 ≤ a) (h1 : a ≤ 900000000000) : ∃ v a' s', spec_l1Cur_among.f l a s m = some (v, a', s') ∧ v ∈ m ∧ a ≤ a' ∧ a' ≤ a + 2 := by
  unfold spec_l1Cur_among.f
  obtain ⟨v, a', s', hv, v0, v1, g⟩ := pick_ok l hl a s (m.length : Int) h0 h1
  rw [hv]
  simp only [Option.bind_some]
  have hlt : v < (m.length : Int) := by rcases v1 with h | h <;> omega
  rw [if_pos v0, if_pos hlt]
  refine ⟨_, a', s', rfl, ?_, g⟩
  unfold rd
  rw [List.getD_eq_getElem?_getD, List.getElem?_eq_getElem (by omega)]
  exact List.getElem_mem _

/-! ### numbers and digits drawn -/
theorem written_ok (l : List Int) (hl : Bytes l) (a s : Int) (h0 : 0 ≤ a) (h1 : a ≤ 800000000000) : ∃ v a' s', spec_l1Cur_written.f l a s = some (v, a', s') ∧ a ≤ a' ∧ a' ≤ a + 20 := by
  unfold spec_l1Cur_written.f
  obtain ⟨x, a1, s1, hx, _, _, g1, g2⟩ := pick_ok l hl a s 10 h0 (by omega)
  rw [hx]
  simp only [Option.bind_some]
  by_cases c : x = 0
  · rw [if_pos c]
    obtain ⟨y, a2, s2, hy, _, e1, e2⟩ := among_ok l hl a1 s1 [0, (-1), 1000000000000, 1000000000001, 4611686018427387904] (by decide) (by omega) (by omega)
    rw [hy]
    exact ⟨_, a2, s2, rfl, by omega, by omega⟩
  rw [if_neg c]
  by_cases c1 : x = 1
  · rw [if_pos c1]
    obtain ⟨y, a2, s2, hy, _, e1, e2⟩ := among_ok l hl a1 s1 [9, 10, 99, 100, 999, 1000, 999999999999, 99999, 100000] (by decide) (by omega) (by omega)
    rw [hy]
    exact ⟨_, a2, s2, rfl, by omega, by omega⟩
  rw [if_neg c1]
  by_cases c2 : x = 2
  · rw [if_pos c2]
    obtain ⟨y, a2, s2, hy, _, _, e1, e2⟩ := pick_ok l hl a1 s1 200 (by omega) (by omega)
    rw [hy]
    simp only [Option.bind_some]
    obtain ⟨z, a3, s3, hz, _, _, f1, f2⟩ := pick_ok l hl a2 s2 200 (by omega) (by omega)
    rw [hz]
    simp only [Option.bind_some]
    obtain ⟨u, a4, s4, hu, _, _, f3, f4⟩ := pick_ok l hl a3 s3 200 (by omega) (by omega)
    rw [hu]
    simp only [Option.bind_some]
    obtain ⟨v, a5, s5, hv, _, _, f5, f6⟩ := pick_ok l hl a4 s4 200 (by omega) (by omega)
    rw [hv]
    exact ⟨_, a5, s5, rfl, by omega, by omega⟩
  rw [if_neg c2]
  obtain ⟨y, a2, s2, hy, _, _, e1, e2⟩ := pick_ok l hl a1 s1 200 (by omega) (by omega)
  rw [hy]
  simp only [Option.bind_some]
  obtain ⟨z, a3, s3, hz, _, _, f1, f2⟩ := pick_ok l hl a2 s2 30 (by omega) (by omega)
  rw [hz]
  simp only [Option.bind_some]
  obtain ⟨u, a4, s4, hu, _, _, f3, f4⟩ := pick_ok l hl a3 s3 10 (by omega) (by omega)
  rw [hu]
  exact ⟨_, a4, s4, rfl, by omega, by omega⟩
theorem one_ok (l : List Int) (hl : Bytes l) (a s n : Int) (h0 : 0 ≤ a) (h1 : a ≤ 900000000000) : ∃ v a' s', spec_l1Cur_one.f l a s n = some (v, a', s') ∧ a ≤ a' ∧ a' ≤ a + 2 := by
  unfold spec_l1Cur_one.f
  obtain ⟨v, a', s', hv, _, _, g⟩ := pick_ok l hl a s n h0 h1
  rw [hv]
  exact ⟨_, a', s', rfl, g⟩
theorem digit_ok (l : List Int) (hl : Bytes l) (a s : Int) (h0 : 0 ≤ a) (h1 : a ≤ 800000000000) : ∃ v a' s', spec_l1Cur_digit.f l a s = some (v, a', s') ∧ a ≤ a' ∧ a' ≤ a + 20 := by
  unfold spec_l1Cur_digit.f
  obtain ⟨x, a1, s1, hx, g1, g2⟩ := one_ok l hl a s 14 h0 (by omega)
  rw [hx]
  simp only [Option.bind_some]
  by_cases c : x = true
  · rw [if_pos c]
    obtain ⟨y, a2, s2, hy, _, e1, e2⟩ := among_ok l hl a1 s1 [(-1), 10, 4611686018427387904] (by decide) (by omega) (by omega)
    rw [hy]
    exact ⟨_, a2, s2, rfl, by omega, by omega⟩
  · rw [if_neg c]
    obtain ⟨y, a2, s2, hy, _, _, e1, e2⟩ := pick_ok l hl a1 s1 10 (by omega) (by omega)
    rw [hy]
    exact ⟨_, a2, s2, rfl, by omega, by omega⟩
theorem drawCD_ok (l : List Int) (hl : Bytes l) : ∃ v w, spec_DrawCountDigit.f l = some (v, w) := by
  obtain ⟨v, a, s, h, g1, g2⟩ := written_ok l hl 0 0 (by omega) (by omega)
  obtain ⟨y, a2, s2, hy, e1, e2⟩ := digit_ok l hl a s (by omega) (by omega)
  unfold spec_DrawCountDigit.f
  rw [h]
  simp only [Option.bind_some]
  rw [hy]
  exact ⟨_, _, rfl⟩
theorem drawNext_ok (l : List Int) (hl : Bytes l) : ∃ v, spec_DrawNextOfSum.f l = some v := by
  obtain ⟨v, a, s, h, _⟩ := written_ok l hl 0 0 (by omega) (by omega)
  unfold spec_DrawNextOfSum.f spec_DrawDigitsWritten.f
  rw [h]
  exact ⟨_, rfl⟩
theorem drawCos_ok (l : List Int) (hl : Bytes l) : ∃ v w, spec_DrawCountOfSum.f l = some (v, w) ∧ w ≤ 4611686018427387904 := by
  obtain ⟨v, a, s, h, g1, g2⟩ := written_ok l hl 0 0 (by omega) (by omega)
  obtain ⟨y, a2, s2, hy, hm, e1, e2⟩ := among_ok l hl a s [0, 1, 2, 5, 9, 10, 18, 27, 108, 109, (-1), 4611686018427387904] (by decide) (by omega) (by omega)
  unfold spec_DrawCountOfSum.f
  rw [h]
  simp only [Option.bind_some]
  rw [hy]
  refine ⟨_, _, rfl, ?_⟩
  simp only [List.mem_cons, List.not_mem_nil, or_false] at hm
  dsimp only
  omega
theorem drawNos_ok (l : List Int) (hl : Bytes l) : ∃ v w, spec_DrawNumberOfSum.f l = some (v, w) := by
  obtain ⟨v, a, s, h, _, g1, g2⟩ := among_ok l hl 0 0 [1, 2, 5, 9, 10, 18, 107, 108, 109, 0] (by decide) (by omega) (by omega)
  obtain ⟨y, a2, s2, hy, _, e1, e2⟩ := among_ok l hl a s [0, 1, 2, 5, 12, 13, 100, (-1), 4611686018427387904] (by decide) (by omega) (by omega)
  unfold spec_DrawNumberOfSum.f
  rw [h]
  simp only [Option.bind_some]
  rw [hy]
  exact ⟨_, _, rfl⟩
theorem drawCw_ok (l : List Int) (hl : Bytes l) : ∃ v w, spec_DrawCountWithout.f l = some (v, w) := by
  obtain ⟨v, w, h⟩ := drawCD_ok l hl
  unfold spec_DrawCountWithout.f
  rw [h]
  exact ⟨_, _, rfl⟩
theorem drawCs_ok (l : List Int) (hl : Bytes l) : ∃ v w, spec_DrawCounterShows.f l = some (v, w) := by
  obtain ⟨v, a, s, h, _, g1, g2⟩ := among_ok l hl 0 0 [1, 2, 8, 9, 10, 13, 80, 81, 100, 1000, 1000000, 1000001, 0] (by decide) (by omega) (by omega)
  obtain ⟨y, a2, s2, hy, e1, e2⟩ := digit_ok l hl a s (by omega) (by omega)
  unfold spec_DrawCounterShows.f
  rw [h]
  simp only [Option.bind_some]
  rw [hy]
  exact ⟨_, _, rfl⟩

/-! ### the functions of sums, both sides -/
def csG (n s : Int) : Int × Bool := if 0 ≤ n ∧ n ≤ 1000000000000 ∧ 0 ≤ s then (cO s n.toNat, true) else (0, false)
theorem csG_in {n : Nat} {s : Int} (hn : n ≤ 1000000000000) (hs : 0 ≤ s) : csG (n : Int) s = (cO s n, true) := by
  unfold csG; rw [if_pos (by omega), Int.toNat_natCast]
theorem csG_out {n s : Int} (h : ¬ (0 ≤ n ∧ n ≤ 1000000000000 ∧ 0 ≤ s)) : csG n s = (0, false) := by unfold csG; rw [if_neg h]
theorem iCos_ev (n s : Int) (hs : s ≤ 9223372036854775807) : Ev (fun k => impl_CountOfSum.f k n s) (csG n s) := by
  have jt : Ev (fun k => impl_CountOfSum.j0 k n s true) (0, false) := ev_succ (by simp only [impl_CountOfSum.j0]; exact ev_pos trivial (ev_eq fun _ => rfl))
  unfold impl_CountOfSum.f
  refine ev_bind (isWritten_eq n) ?_
  by_cases g : goodN n = true
  · have hn := goodN_iff.mp g
    refine ev_pos g ?_
    by_cases c : s < 0
    · rw [csG_out (by omega), decide_eq_true c]; exact jt
    · obtain ⟨m, rfl⟩ := nat_of hn.1
      rw [csG_in (by omega) (by omega), decide_eq_false c]
      refine ev_succ ?_
      simp only [impl_CountOfSum.j0]
      refine ev_neg (by decide) ?_
      by_cases z : s = 0
      · subst z
        rw [cO_zero]
        exact ev_pos rfl (ev_eq fun _ => rfl)
      · refine ev_neg z ?_
        rw [wrap_nat (by omega), cO_pos (by omega)]
        exact Ev.bind (ibelow_ev (m + 1) (by omega) s (by omega) hs) (ev_eq fun _ => rfl)
  · have hn := fun h => g (goodN_iff.mpr h)
    rw [csG_out (fun h => hn ⟨h.1, h.2.1⟩)]
    exact ev_neg g jt
theorem sCos_ev (n s : Int) (hs : s ≤ 9223372036854775807) : Ev (fun k => spec_CountOfSum.f k n s) (csG n s) := by
  unfold spec_CountOfSum.f
  refine ev_bind (diGood_eq n) ?_
  by_cases g : goodN n = true
  · have hn := goodN_iff.mp g
    refine ev_pos g ?_
    by_cases c : s < 0
    · rw [csG_out (by omega)]; exact ev_pos c (ev_eq fun _ => rfl)
    · obtain ⟨m, rfl⟩ := nat_of hn.1
      rw [csG_in (by omega) (by omega)]
      exact ev_neg c (Ev.bind (diOfSum_ev m (by omega) s (by omega) hs) (ev_eq fun _ => rfl))
  · have hn := fun h => g (goodN_iff.mpr h)
    rw [csG_out (fun h => hn ⟨h.1, h.2.1⟩)]
    exact ev_neg g (ev_eq fun _ => rfl)
theorem nos_out (s r : Int) (h : ¬ (1 ≤ s ∧ s ≤ 108)) : Ev (fun k => impl_NumberOfSum.f k s r) (0, false) ∧ Ev (fun k => spec_NumberOfSum.f k s r) (0, false) := by
  refine ⟨?_, ?_⟩
  · unfold impl_NumberOfSum.f
    rw [within_eq]
    exact ev_neg (by simpa using h) (ev_eq fun _ => rfl)
  · unfold spec_NumberOfSum.f
    rw [l1In_eq]
    exact ev_neg (by simpa using h) (ev_eq fun _ => rfl)
theorem sNos_of (s r : Int) (x : Int × Bool) (hs : 1 ≤ s) (hs2 : s ≤ 108) (hr : 0 ≤ r) (h : Ev (fun k => spec_diOfRank.f k s r) x) : Ev (fun k => spec_NumberOfSum.f k s r) x := by
  unfold spec_NumberOfSum.f
  rw [l1In_eq]
  exact ev_pos (decide_eq_true ⟨hs, hs2⟩) (ev_neg (by omega) (Ev.bind h (ev_eq fun _ => rfl)))
theorem nos_both (s r : Int) : (∃ m, 1 ≤ s ∧ s ≤ 108 ∧ 0 ≤ r ∧ rkP s r m ∧ Ev (fun k => impl_NumberOfSum.f k s r) ((m : Int), true) ∧ Ev (fun k => spec_NumberOfSum.f k s r) ((m : Int), true)) ∨
    (Ev (fun k => impl_NumberOfSum.f k s r) (0, false) ∧ Ev (fun k => spec_NumberOfSum.f k s r) (0, false)) := by
  by_cases c : 1 ≤ s ∧ s ≤ 108
  · obtain ⟨T, hT⟩ : ∃ T : Nat, T = 1000000000001 := ⟨_, rfl⟩
    by_cases h0 : r < 0
    · refine .inr ⟨?_, ?_⟩
      · rcases iNos_ev s r T hT c.1 c.2 with ⟨m, hm, _⟩ | ⟨_, h⟩
        · have := cnt_nonneg s m; rw [hm.2.2.2] at this; omega
        · exact h
      · unfold spec_NumberOfSum.f
        rw [l1In_eq]
        exact ev_pos (decide_eq_true c) (ev_pos h0 (ev_eq fun _ => rfl))
    rcases iNos_ev s r T hT c.1 c.2 with ⟨m, hm, h1⟩ | ⟨hc, h1⟩
    · rcases sRank_ev s r T hT c.1 (by omega) (by omega) with ⟨p, hp, h2⟩ | ⟨hc, _⟩
      · obtain rfl := rk_uniq hm hp
        exact .inl ⟨m, c.1, c.2, by omega, hm, h1, sNos_of s r _ c.1 c.2 (by omega) h2⟩
      · have := rk_lt hT hm; omega
    · rcases sRank_ev s r T hT c.1 (by omega) (by omega) with ⟨p, hp, _⟩ | ⟨_, h2⟩
      · have := rk_lt hT hp; omega
      · exact .inr ⟨h1, sNos_of s r _ c.1 c.2 (by omega) h2⟩
  · exact .inr (nos_out s r c)
theorem ds_108 (n : Nat) (h : n ≤ 1000000000000) : ds n ≤ 108 := by
  by_cases c : n < 1000000000000
  · have := ds_le 12 n (by omega); omega
  · obtain ⟨T, hT⟩ : ∃ T : Nat, T = 10 ^ 12 := ⟨_, rfl⟩
    have h1 := ds_split 12 n
    rw [← hT] at h1
    have e0 : n = T := by omega
    have e1 : n / T = 1 := by rw [e0]; exact Nat.div_self (by omega)
    have e2 : n % T = 0 := by rw [e0]; exact Nat.mod_self T
    rw [e1, e2, ds_small (n := 0) (by omega), ds_small (n := 1) (by omega)] at h1
    omega
theorem iNext_of (n : Nat) (h1 : 1 ≤ n) (h : n ≤ 1000000000000) (x : Int × Bool) (hx : Ev (fun k => impl_NumberOfSum.f k (ds n) (cnt (ds n) (n + 1))) x) : Ev (fun k => impl_NextOfSum.f k (n : Int)) x := by
  unfold impl_NextOfSum.f
  rw [within_eq]
  have hd := idigitSum_ev n (by omega)
  refine ev_pos (decide_eq_true ⟨by omega, by omega⟩) (Ev.bind hd (Ev.bind hd ?_))
  rw [wrap_nat (by omega)]
  have h0 := ds_nonneg n
  have h2 := ds_108 n h
  exact Ev.bind (ibelow_ev (n + 1) (by omega) (ds n) h0 (by omega)) (Ev.bind hx (ev_eq fun _ => rfl))
theorem sNext_of (n : Nat) (h1 : 1 ≤ n) (h : n ≤ 1000000000000) (x : Int × Bool) (hx : Ev (fun k => spec_diOfRank.f k (ds n) (cnt (ds n) (n + 1))) x) : Ev (fun k => spec_NextOfSum.f k (n : Int)) x := by
  unfold spec_NextOfSum.f
  rw [l1In_eq]
  have hd := diSum_ev n (by omega)
  have h0 := ds_pos (n := n) (by omega)
  have h2 := ds_108 n h
  have hc := diOfSum_ev n (by omega) (ds n) (by omega) (by omega)
  rw [cO_pos (by omega)] at hc
  exact ev_pos (decide_eq_true ⟨by omega, by omega⟩) (Ev.bind hd (Ev.bind hd (Ev.bind hc (Ev.bind hx (ev_eq fun _ => rfl)))))
theorem next_both (n : Nat) (h1 : 1 ≤ n) (h : n ≤ 1000000000000) : (∃ m, rkP (ds n) (cnt (ds n) (n + 1)) m ∧ Ev (fun k => impl_NextOfSum.f k (n : Int)) ((m : Int), true) ∧ Ev (fun k => spec_NextOfSum.f k (n : Int)) ((m : Int), true)) ∨
    (Ev (fun k => impl_NextOfSum.f k (n : Int)) (0, false) ∧ Ev (fun k => spec_NextOfSum.f k (n : Int)) (0, false)) := by
  obtain ⟨T, hT⟩ : ∃ T : Nat, T = 1000000000001 := ⟨_, rfl⟩
  have h0 := ds_pos (n := n) (by omega)
  have h2 := ds_108 n h
  have hc0 := cnt_nonneg (ds n) (n + 1)
  rcases iNos_ev (ds n) (cnt (ds n) (n + 1)) T hT (by omega) h2 with ⟨m, hm, e1⟩ | ⟨hc, e1⟩
  · rcases sRank_ev (ds n) (cnt (ds n) (n + 1)) T hT (by omega) (by omega) hc0 with ⟨p, hp, e2⟩ | ⟨hc, _⟩
    · obtain rfl := rk_uniq hm hp
      exact .inl ⟨m, hm, iNext_of n h1 h _ e1, sNext_of n h1 h _ e2⟩
    · have := rk_lt hT hm; omega
  · rcases sRank_ev (ds n) (cnt (ds n) (n + 1)) T hT (by omega) (by omega) hc0 with ⟨p, hp, _⟩ | ⟨_, e2⟩
    · have := rk_lt hT hp; omega
    · exact .inr ⟨iNext_of n h1 h _ e1, sNext_of n h1 h _ e2⟩
theorem next_out (n : Int) (h : ¬ (1 ≤ n ∧ n ≤ 1000000000000)) : Ev (fun k => impl_NextOfSum.f k n) (0, false) ∧ Ev (fun k => spec_NextOfSum.f k n) (0, false) := by
  refine ⟨?_, ?_⟩
  · unfold impl_NextOfSum.f
    rw [within_eq]
    exact ev_neg (by simpa using h) (ev_eq fun _ => rfl)
  · unfold spec_NextOfSum.f
    rw [l1In_eq]
    exact ev_neg (by simpa using h) (ev_eq fun _ => rfl)

/-! ### the law's own loops and joins -/
def topd (n : Nat) : Nat := if h : n < 10 then n else topd (n / 10)
termination_by n
decreasing_by omega
theorem topd_small {n : Nat} (h : n < 10) : topd n = n := by rw [topd, dif_pos h]
theorem topd_step {n : Nat} (h : ¬ n < 10) : topd n = topd (n / 10) := by rw [topd, dif_neg h]
theorem law_l1 (l1 : List Int) (n A : Nat) (x6 : Int) (x7 : Bool) (x10 : Int) (hn : n ≤ 1000000000000) (hA : A * topd n = pr n) (h4 : Ev (fun k => laws_FnDigitsSummed.j4 k l1 (n : Int) x6 x7 x10) true) :
    ∀ m : Nat, m ≤ 1000000000000 → topd m = topd n → Ev (fun k => laws_FnDigitsSummed.l1 k l1 (n : Int) x6 x7 x10 (pr n : Int) (A : Int) (m : Int)) true := by
  intro m
  induction m using Nat.strongRecOn with
  | _ m ih =>
    intro hm ht
    refine ev_succ ?_
    simp only [laws_FnDigitsSummed.l1]
    by_cases c : m < 10
    · rw [topd_small c] at ht
      have hp := pr_le n
      have e : (A : Int) * (m : Int) = (pr n : Int) := by rw [ht, ← Int.natCast_mul, hA]
      rw [e, wrap_of (by omega) (by omega)]
      exact ev_pos (by omega) (ev_pos rfl h4)
    · rw [topd_step c] at ht
      have e : wrap64 (Int.tdiv (m : Int) 10) = ((m / 10 : Nat) : Int) := by rw [Int.tdiv_eq_ediv_of_nonneg (by omega), wrap_of (by omega) (by omega)]; omega
      rw [e]
      exact ev_neg (by omega) (ih (m / 10) (by omega) (by omega) ht)
theorem law_l0 (l1 : List Int) (n : Nat) (x6 : Int) (x7 : Bool) (x10 : Int) (hn : n ≤ 1000000000000) (h4 : Ev (fun k => laws_FnDigitsSummed.j4 k l1 (n : Int) x6 x7 x10) true) :
    ∀ m : Nat, m ≤ 1000000000000 → topd m = topd n → ∀ A : Nat, A * pr m = pr n → A * m ≤ n → A ≤ 1000000000000 → Ev (fun k => laws_FnDigitsSummed.l0 k l1 (n : Int) x6 x7 x10 (pr n : Int) (A : Int) (m : Int)) true := by
  intro m
  induction m using Nat.strongRecOn with
  | _ m ih =>
    intro hm ht A hA hAm hA2
    refine ev_succ ?_
    simp only [laws_FnDigitsSummed.l0]
    by_cases c : m < 10
    · rw [topd_small c] at ht
      rw [pr_small c, ht] at hA
      exact ev_neg (by omega) (law_l1 l1 n A x6 x7 x10 hn hA h4 n hn rfl)
    · rw [topd_step c] at ht
      rw [pr_step (by omega), ← Nat.mul_assoc] at hA
      have e : wrap64 (Int.tdiv (m : Int) 10) = ((m / 10 : Nat) : Int) := by rw [Int.tdiv_eq_ediv_of_nonneg (by omega), wrap_of (by omega) (by omega)]; omega
      have e2 : Int.tmod (m : Int) 10 = ((m % 10 : Nat) : Int) := by rw [Int.tmod_eq_emod_of_nonneg (by omega)]; omega
      have h1 : A * (m % 10) ≤ A * 9 := Nat.mul_le_mul_left A (by omega)
      have h2 : A * (m % 10) * (m / 10) ≤ n := by
        have h3 : m % 10 * (m / 10) ≤ m := by
          have := Nat.mul_le_mul_right (m / 10) (show m % 10 ≤ 9 by omega); omega
        have h4 := Nat.mul_le_mul_left A h3
        rw [← Nat.mul_assoc] at h4; omega
      have h3 : A * (m % 10) ≤ n := Nat.le_trans (Nat.le_mul_of_pos_right _ (by omega)) h2
      rw [e, e2, ← Int.natCast_mul, wrap_of (x := ((A * (m % 10) : Nat) : Int)) (by omega) (by omega)]
      exact ev_pos (by omega) (ih (m / 10) (by omega) (by omega) ht (A * (m % 10)) hA h2 (by omega))
theorem rk_next {s : Int} {n m : Nat} (hs : 1 ≤ s) (hn : ds n = s) (h : rkP s (cnt s (n + 1)) m) : n < m ∧ cO s m = cnt s (n + 1) + 1 ∧ cO s n = cnt s (n + 1) := by
  obtain ⟨h1, h2, h3, h4⟩ := h
  refine ⟨?_, ?_, cO_pos hs n⟩
  · rcases Nat.lt_or_ge n m with c | c
    · exact c
    · have := cnt_mono s c
      rw [cnt_hit hn] at h4; omega
  · rw [cO_pos hs, cnt_hit h3, h4]
theorem cO_bd (s : Int) (n : Nat) : -1 ≤ cO s n ∧ cO s n ≤ n + 1 := by
  have h1 := cnt_nonneg s (n + 1)
  have h2 := cnt_le s (n + 1)
  unfold cO; split <;> omega
theorem j4_ok (l1 : List Int) (n m : Nat) (h1 : 1 ≤ n) (hn : n ≤ 1000000000000) (hm : rkP (ds n) (cnt (ds n) (n + 1)) m) (h5 : Ev (fun k => laws_FnDigitsSummed.j5 k l1) true) :
    Ev (fun k => laws_FnDigitsSummed.j4 k l1 (n : Int) (m : Int) true (ds n)) true := by
  have h0 := ds_pos (n := n) (by omega)
  have h108 := ds_108 n hn
  obtain ⟨hlt, e1, e2⟩ := rk_next (by omega) rfl hm
  have hb := cO_bd (ds n) n
  have hm2 := hm.2.1
  have c1 := iCos_ev (m : Int) (ds n) (by omega)
  have c2 := iCos_ev (n : Int) (ds n) (by omega)
  rw [csG_in (by omega) (by omega)] at c1 c2
  refine ev_succ ?_
  simp only [laws_FnDigitsSummed.j4]
  refine ev_pos trivial (Ev.bind (iDS_ev m (by omega)) (Ev.bind c1 (Ev.bind c2 (ev_neg (by omega) (ev_pos rfl (ev_pos hm.2.2.1 (ev_pos rfl (ev_pos rfl (ev_pos ?_ ?_)))))))))
  · dsimp only
    rw [e1, e2, wrap_of (by omega) (by omega)]
  · dsimp only
    rw [e2]
    obtain ⟨T, hT⟩ : ∃ T : Nat, T = 1000000000001 := ⟨_, rfl⟩
    rcases iNos_ev (ds n) (cnt (ds n) (n + 1)) T hT (by omega) h108 with ⟨p, hp, he⟩ | ⟨hc, _⟩
    · obtain rfl := rk_uniq hm hp
      exact Ev.bind he (ev_pos rfl (ev_pos rfl h5))
    · have := rk_lt hT hm
      have := cnt_nonneg (ds n) (n + 1)
      omega
theorem j4_no (l1 : List Int) (x5 x6 x10 : Int) (h5 : Ev (fun k => laws_FnDigitsSummed.j5 k l1) true) : Ev (fun k => laws_FnDigitsSummed.j4 k l1 x5 x6 false x10) true := by
  refine ev_succ ?_
  simp only [laws_FnDigitsSummed.j4]
  exact ev_neg (by decide) h5
/-- what stands at the end: a counter's place is its count -/
def tailT (k : Nat) (c d v : Int) (b : Bool) : Option Bool := if b = true then ((impl_CountOfCounter.f k v d).bind fun t => (if t.2 = true then (if t.1 = c then (some (decide (v ≥ c))) else (some false)) else (some false))) else (some true)
theorem tail_no (c d v : Int) : Ev (fun k => tailT k c d v false) true := by unfold tailT; exact ev_neg (by decide) (ev_eq fun _ => rfl)
theorem tail_ok (c : Int) (q m : Nat) (hq : q < 10) (h : csP c q m) : Ev (fun k => tailT k c (q : Int) (m : Int) true) true := by
  obtain ⟨f1, f2, f3⟩ := cs_facts h
  have hc := iCC_ev (m : Int) (q : Int)
  rw [ccG_in h.1 h.2.1 hq f1, f2] at hc
  unfold tailT
  exact ev_pos rfl (Ev.bind hc (ev_pos rfl (ev_pos rfl (ev_eq fun _ => by rw [decide_eq_true (by omega)]))))
theorem l2_loop (u q : Nat) (x61 x65 : Int) (x66 : Bool) (c d v : Int) (b : Bool) (H : Bool) (hend : Ev (fun k => laws_FnDigitsSummed.l2 k (u : Int) (q : Int) x61 x65 x66 c d v b H 0) true) :
    ∀ m : Nat, m ≤ 1000000000000 → ∀ has : Bool, (has || (decide (0 < m) && hasD q m)) = H → Ev (fun k => laws_FnDigitsSummed.l2 k (u : Int) (q : Int) x61 x65 x66 c d v b has (m : Int)) true := by
  intro m
  induction m using Nat.strongRecOn with
  | _ m ih =>
    intro hm has hH
    by_cases z : m = 0
    · subst z
      have : has = H := by rw [← hH]; simp
      rw [this]; exact hend
    · refine ev_succ ?_
      simp only [laws_FnDigitsSummed.l2]
      have e : wrap64 (Int.tdiv (m : Int) 10) = ((m / 10 : Nat) : Int) := by rw [Int.tdiv_eq_ediv_of_nonneg (by omega), wrap_of (by omega) (by omega)]; omega
      have e2 : Int.tmod (m : Int) 10 = ((m % 10 : Nat) : Int) := by rw [Int.tmod_eq_emod_of_nonneg (by omega)]; omega
      have e3 : (((m % 10 : Nat) : Int) == (q : Int)) = (m % 10 == q) := by rw [Bool.eq_iff_iff, beq_iff_eq, beq_iff_eq]; omega
      rw [e, e2, e3]
      refine ev_pos (by omega) ?_
      cases has with
      | true => exact ev_pos rfl (ih (m / 10) (by omega) (by omega) true (by rw [← hH]; simp))
      | false =>
        refine ev_neg (by decide) (ih (m / 10) (by omega) (by omega) _ ?_)
        rw [← hH, decide_eq_true (show 0 < m by omega)]
        by_cases s : m < 10
        · rw [hasD_small s, show m / 10 = 0 by omega, Nat.mod_eq_of_lt s]; simp
        · have hc := hasD_cons (d := q) (m / 10) (m % 10) (by omega) (by omega)
          rw [show 10 * (m / 10) + m % 10 = m by omega] at hc
          rw [hc, decide_eq_true (show 0 < m / 10 by omega)]; simp
theorem l2_end (u q : Nat) (hu : u ≤ 1000000000000) (hq : q < 10) (c d v : Int) (b : Bool) (ht : Ev (fun k => tailT k c d v b) true) :
    Ev (fun k => laws_FnDigitsSummed.l2 k (u : Int) (q : Int) (wb q (u + 1)) (ccG (u : Int) (q : Int)).1 (ccG (u : Int) (q : Int)).2 c d v b (if u = 0 then true else hasD q u) 0) true := by
  have w1 := wb_nonneg q (u + 1)
  have w2 := wb_le q u
  refine ev_succ ?_
  simp only [laws_FnDigitsSummed.l2]
  refine ev_neg (by omega) ?_
  by_cases z : u = 0
  · subst z
    have hc : ccG ((0 : Nat) : Int) (q : Int) = (0, false) := by unfold ccG; rw [if_neg (by omega)]
    rw [hc, if_pos rfl]
    refine ev_neg (by decide) (ev_neg (by decide) (ev_neg (by omega) (ev_neg (by omega) (ev_neg (by omega) ?_))))
    exact ht
  · rw [if_neg z]
    obtain ⟨p, rfl⟩ : ∃ p, u = p + 1 := ⟨u - 1, by omega⟩
    have e1 : wrap64 (((p + 1 : Nat) : Int) - 1) = (p : Int) := by rw [wrap_of (by omega) (by omega)]; omega
    have cw := iCW_ev (p : Int) (q : Int)
    rw [cwG_in (by omega) hq] at cw
    rw [e1]
    cases hh : hasD q (p + 1) with
    | true =>
      rw [ccG_has hh]
      have wm := wb_miss hh
      refine ev_neg (by decide) (ev_neg (by decide) (ev_neg (by omega) (ev_neg (by omega) (ev_pos (by omega) (Ev.bind cw (ev_pos rfl (ev_neg ?_ (ev_pos rfl ?_))))))))
      · rw [wm]; simp
      · exact ht
    | false =>
      rw [ccG_in (by omega) (by omega) hq hh]
      have wm := wb_hit (show 0 < p + 1 by omega) hh
      refine ev_neg (by simp) (ev_pos rfl (ev_pos rfl (ev_neg (by omega) (ev_neg (by omega) (ev_pos (by omega) (Ev.bind cw (ev_pos rfl (ev_neg ?_ (ev_neg (by decide) (ev_pos ?_ ?_))))))))))
      · dsimp only
        have : (wb q (p + 1) == wb q (p + 1 + 1)) = false := by rw [wm, beq_eq_false_iff_ne]; omega
        rw [this]; decide
      · dsimp only
        rw [wm, wrap_of (by omega) (by omega)]; omega
      · exact ht
theorem j9_ev (u q : Int) (c d v : Int) (b : Bool) (ht : Ev (fun k => tailT k c d v b) true) :
    Ev (fun k => laws_FnDigitsSummed.j9 k u q (cwG u q).1 (cwG u q).2 (ccG u q).1 (ccG u q).2 c d v b) true := by
  refine ev_succ ?_
  simp only [laws_FnDigitsSummed.j9]
  by_cases g : 0 ≤ u ∧ u ≤ 1000000000000 ∧ 0 ≤ q ∧ q ≤ 9
  · obtain ⟨n, rfl⟩ := nat_of g.1
    obtain ⟨e, rfl⟩ := nat_of g.2.2.1
    rw [cwG_in (by omega) (by omega)]
    refine ev_pos rfl ?_
    have h := l2_loop n e _ _ _ c d v b _ (l2_end n e (by omega) (by omega) c d v b ht) n (by omega) ((n : Int) == 0) (by
      by_cases z : n = 0
      · subst z; rfl
      · rw [if_neg z, decide_eq_true (by omega)]
        have : ((n : Int) == 0) = false := by rw [beq_eq_false_iff_ne]; omega
        rw [this]; simp)
    exact h
  · have e : cwG u q = (0, false) := by unfold cwG; rw [if_neg g]
    rw [e]
    exact ev_neg (by decide) ht
theorem j8_no (t rank number u q c d v : Int) (b : Bool) (ht : Ev (fun k => tailT k c d v b) true) :
    Ev (fun k => laws_FnDigitsSummed.j8 k t rank number false u q (cwG u q).1 (cwG u q).2 (ccG u q).1 (ccG u q).2 c d v b) true := by
  refine ev_succ ?_
  simp only [laws_FnDigitsSummed.j8]
  exact ev_neg (by decide) (j9_ev u q c d v b ht)
theorem j8_ok (t rank : Int) (m : Nat) (u q c d v : Int) (b : Bool) (hs : 1 ≤ t) (hs2 : t ≤ 108) (hr : 0 ≤ rank) (hm : rkP t rank m) (ht : Ev (fun k => tailT k c d v b) true) :
    Ev (fun k => laws_FnDigitsSummed.j8 k t rank (m : Int) true u q (cwG u q).1 (cwG u q).2 (ccG u q).1 (ccG u q).2 c d v b) true := by
  have hc := iCos_ev (m : Int) t (by omega)
  have h2 := hm.2.1
  have hb := cnt_le t m
  rw [hm.2.2.2] at hb
  rw [csG_in (by omega) (by omega), cO_pos hs, cnt_hit hm.2.2.1, hm.2.2.2] at hc
  refine ev_succ ?_
  simp only [laws_FnDigitsSummed.j8]
  refine ev_pos trivial (Ev.bind (iDS_ev m (by omega)) (Ev.bind hc (ev_pos rfl (ev_pos hm.2.2.1 (ev_pos rfl (ev_pos ?_ (j9_ev u q c d v b ht)))))))
  dsimp only
  rw [wrap_of (by omega) (by omega)]
theorem j7_ev (m s t rank number u q c d v : Int) (x56 b f : Bool) (hs : s ≤ 9223372036854775807) (hf : f = true → 1 ≤ m ∧ m ≤ 1000000000000 ∧ 0 ≤ s) (h8 : Ev (fun k => laws_FnDigitsSummed.j8 k t rank number x56 u q (cwG u q).1 (cwG u q).2 (ccG u q).1 (ccG u q).2 c d v b) true) :
    Ev (fun k => laws_FnDigitsSummed.j7 k m s (csG m s).1 t rank number x56 u q (cwG u q).1 (cwG u q).2 (ccG u q).1 (ccG u q).2 c d v b f) true := by
  refine ev_succ ?_
  simp only [laws_FnDigitsSummed.j7]
  cases f with
  | false => exact ev_neg (by decide) h8
  | true =>
    obtain ⟨h1, h2, h3⟩ := hf rfl
    obtain ⟨n, rfl⟩ := nat_of (show 0 ≤ m by omega)
    obtain ⟨p, rfl⟩ : ∃ p, n = p + 1 := ⟨n - 1, by omega⟩
    have e1 : wrap64 (((p + 1 : Nat) : Int) - 1) = (p : Int) := by rw [wrap_of (by omega) (by omega)]; omega
    have c1 := iCos_ev (p : Int) s hs
    rw [csG_in (by omega) h3] at c1
    have hb := cO_bd s p
    rw [e1, csG_in (n := p + 1) (by omega) h3]
    refine ev_pos rfl (Ev.bind c1 (Ev.bind (iDS_ev (p + 1) (by omega)) (ev_pos rfl (ev_pos rfl ?_))))
    dsimp only
    rw [wrap_of (x := cO s p + 1) (by omega) (by omega)]
    have z0 : s = 0 → cO s (p + 1) = 0 := fun z => by subst z; exact cO_zero _
    have fin : Ev (fun k => if s = 0 then (if cO s (p + 1) = 0 then laws_FnDigitsSummed.j8 k t rank number x56 u q (cwG u q).1 (cwG u q).2 (ccG u q).1 (ccG u q).2 c d v b else some false) else laws_FnDigitsSummed.j8 k t rank number x56 u q (cwG u q).1 (cwG u q).2 (ccG u q).1 (ccG u q).2 c d v b) true := by
      by_cases z : s = 0
      · exact ev_pos z (ev_pos (z0 z) h8)
      · exact ev_neg z h8
    by_cases e : ds (p + 1) = s
    · have hc : cO s (p + 1) = cO s p + 1 := by unfold cO; rw [cnt_hit e]; omega
      refine ev_neg ?_ (ev_pos e fin)
      have a1 : (ds (p + 1) == s) = true := beq_iff_eq.mpr e
      have a2 : (cO s (p + 1) == cO s p + 1) = true := beq_iff_eq.mpr hc
      rw [a1, a2]; decide
    · have hc : cO s (p + 1) = cO s p := by unfold cO; rw [cnt_miss e]
      refine ev_neg ?_ (ev_neg e (ev_pos hc fin))
      have a1 : (ds (p + 1) == s) = false := beq_eq_false_iff_ne.mpr e
      have a2 : (cO s (p + 1) == cO s p + 1) = false := by rw [beq_eq_false_iff_ne, hc]; omega
      rw [a1, a2]; decide
theorem csG_true {n s : Int} (h : (csG n s).2 = true) : 0 ≤ n ∧ n ≤ 1000000000000 ∧ 0 ≤ s := by
  by_cases c : 0 ≤ n ∧ n ≤ 1000000000000 ∧ 0 ≤ s
  · exact c
  · rw [csG_out c] at h; exact Bool.noConfusion h
theorem j6_ev (m s t rank number u q c d v : Int) (x56 b : Bool) (hs : s ≤ 9223372036854775807) (h8 : Ev (fun k => laws_FnDigitsSummed.j8 k t rank number x56 u q (cwG u q).1 (cwG u q).2 (ccG u q).1 (ccG u q).2 c d v b) true) :
    Ev (fun k => laws_FnDigitsSummed.j6 k m s (csG m s).1 (csG m s).2 t rank number x56 u q (cwG u q).1 (cwG u q).2 (ccG u q).1 (ccG u q).2 c d v b false) true := by
  refine ev_succ ?_
  simp only [laws_FnDigitsSummed.j6]
  refine ev_neg (by decide) ?_
  by_cases g : (csG m s).2 = true
  · have h := csG_true g
    exact ev_pos g (j7_ev m s t rank number u q c d v x56 b _ hs (fun hf => by have := of_decide_eq_true hf; omega) h8)
  · exact ev_neg g (j7_ev m s t rank number u q c d v x56 b _ hs (fun hf => Bool.noConfusion hf) h8)
theorem cc_cw {u q : Int} (h : (ccG u q).2 = true) : (cwG u q).2 = true := by
  unfold ccG at h
  by_cases c : 1 ≤ u ∧ u ≤ 1000000000000 ∧ 0 ≤ q ∧ q ≤ 9 ∧ hasD q.toNat u.toNat = false
  · unfold cwG; rw [if_pos (by omega)]
  · rw [if_neg c] at h; exact Bool.noConfusion h
theorem j5_ev (l1 : List Int) (hw1 : Bytes l1) : Ev (fun k => laws_FnDigitsSummed.j5 k l1) true := by
  obtain ⟨m, s, hd1, hs⟩ := drawCos_ok l1 hw1
  obtain ⟨t, rank, hd2⟩ := drawNos_ok l1 hw1
  obtain ⟨u, q, hd3⟩ := drawCw_ok l1 hw1
  obtain ⟨c, d, hd4⟩ := drawCs_ok l1 hw1
  obtain ⟨v, b, hi, hsp, ht⟩ : ∃ v b, Ev (fun k => impl_CounterShows.f k c d) (v, b) ∧ Ev (fun k => spec_CounterShows.f k c d) (v, b) ∧ Ev (fun k => tailT k c d v b) true := by
    rcases cs_both c d with ⟨h1, h2⟩ | ⟨_, e, p, rfl, he, hp, h1, h2⟩
    · exact ⟨0, false, h1, h2, tail_no _ _ _⟩
    · exact ⟨p, true, h1, h2, tail_ok c e p he hp⟩
  obtain ⟨number, x56, hn1, hn2, h8⟩ : ∃ number x56, Ev (fun k => impl_NumberOfSum.f k t rank) (number, x56) ∧ Ev (fun k => spec_NumberOfSum.f k t rank) (number, x56) ∧
      Ev (fun k => laws_FnDigitsSummed.j8 k t rank number x56 u q (cwG u q).1 (cwG u q).2 (ccG u q).1 (ccG u q).2 c d v b) true := by
    rcases nos_both t rank with ⟨p, g1, g2, g3, hp, h1, h2⟩ | ⟨h1, h2⟩
    · exact ⟨p, true, h1, h2, j8_ok t rank p u q c d v b g1 g2 g3 hp ht⟩
    · exact ⟨0, false, h1, h2, j8_no t rank 0 u q c d v b ht⟩
  have hs2 : s ≤ 9223372036854775807 := by omega
  have h6 := j6_ev m s t rank number u q c d v x56 b hs2 h8
  refine ev_succ ?_
  simp only [laws_FnDigitsSummed.j5]
  refine ev_bind hd1 (Ev.bind (iCos_ev m s hs2) (Ev.bind (sCos_ev m s hs2) (ev_bind hd2 (Ev.bind hn1 (Ev.bind hn2 (ev_bind hd3 (Ev.bind (iCW_ev u q) (Ev.bind (sCW_ev u q) (Ev.bind (iCC_ev u q) (Ev.bind (sCC_ev u q) (ev_bind hd4 (Ev.bind hi (Ev.bind hsp ?_)))))))))))))
  refine ev_neg (by simp) (ev_pos rfl (ev_neg (by simp) (ev_pos rfl (ev_neg (by simp) (ev_pos rfl (ev_neg (by simp) (ev_pos rfl (ev_neg (by simp) (ev_pos rfl ?_)))))))))
  by_cases g : (ccG u q).2 = true
  · refine ev_pos g ?_
    dsimp only
    rw [cc_cw g, Bool.not_true]
    have h := h6
    rw [cc_cw g] at h
    exact h
  · exact ev_neg g h6

/-! ### the law -/
theorem j1_ev (l1 : List Int) (n : Nat) (x6 : Int) (x7 : Bool) (x10 : Int) (hn : n ≤ 1000000000000) (h4 : Ev (fun k => laws_FnDigitsSummed.j4 k l1 (n : Int) x6 x7 x10) true) :
    Ev (fun k => laws_FnDigitsSummed.j1 k l1 (n : Int) x6 x7 x10 (pr n : Int)) true := by
  refine ev_succ ?_
  simp only [laws_FnDigitsSummed.j1]
  exact law_l0 l1 n x6 x7 x10 hn h4 n hn rfl 1 (Nat.one_mul _) (by omega) (by omega)
theorem beq_bne {a b : Bool} (h : a = b) : ¬ (a != b) = true := by subst h; simp
theorem j0_ev (l1 : List Int) (n : Nat) (x6 : Int) (x7 : Bool) (hn : n ≤ 1000000000000) (h4 : Ev (fun k => laws_FnDigitsSummed.j4 k l1 (n : Int) x6 x7 (ds n)) true) :
    Ev (fun k => laws_FnDigitsSummed.j0 k l1 (n : Int) x6 x7 (ds n) true ((rt dsn n).1 : Int) ((rt dsn n).2 : Int) (pr n : Int) ((rt pr n).1 : Int) ((rt pr n).2 : Int) false) true := by
  have hdm : ∀ m, dsn m % 9 = m % 9 := fun m => by have := ds_mod m; have := dsn_eq m; omega
  have hdp : ∀ m, 0 < m → 0 < dsn m := fun m h => by have := ds_pos h; have := dsn_eq m; omega
  obtain ⟨a1, a2, a3⟩ := rt_facts dsn dsn_less n
  obtain ⟨b1, b2⟩ := rt_mod dsn dsn_less hdm hdp n
  obtain ⟨c1, c2, c3⟩ := rt_facts pr pr_lt n
  have h0 := ds_nonneg n
  have hm := ds_mod n
  have h1 := j1_ev l1 n x6 x7 (ds n) hn h4
  refine ev_succ ?_
  simp only [laws_FnDigitsSummed.j0]
  refine ev_neg (by decide) (ev_pos trivial (ev_pos ?_ (ev_pos ?_ (ev_neg (by omega) (ev_neg (by omega) (ev_neg (beq_bne ?_) (ev_neg (beq_bne ?_) (ev_neg (by omega) (ev_neg (by omega) (ev_neg (beq_bne ?_) ?_))))))))))
  · rw [Int.tmod_eq_emod_of_nonneg h0, Int.tmod_eq_emod_of_nonneg (by omega)]; exact hm
  · rw [Int.tmod_eq_emod_of_nonneg (by omega), Int.tmod_eq_emod_of_nonneg (by omega)]; omega
  · rw [Bool.eq_iff_iff, beq_iff_eq, beq_iff_eq]; omega
  · rw [Bool.eq_iff_iff, beq_iff_eq, decide_eq_true_eq]; omega
  · rw [Bool.eq_iff_iff, beq_iff_eq, decide_eq_true_eq]; omega
  · by_cases c : n < 10
    · exact ev_neg (by omega) h1
    · have hl := dsn_less n (by omega)
      have hp := pr_lt n (by omega)
      have e1 := iDR_ev (dsn n) (by omega)
      rw [dsn_eq] at e1
      have e2 := iPE_ev (pr n) (by omega)
      have r1 := rt_step dsn (show 10 ≤ n by omega) hl
      have r2 := rt_step pr (show 10 ≤ n by omega) hp
      have q1 : (rt dsn n).1 = (rt dsn (dsn n)).1 := by rw [r1]
      have q2 : (rt dsn n).2 = (rt dsn (dsn n)).2 + 1 := by rw [r1]
      have q3 : (rt pr n).1 = (rt pr (pr n)).1 := by rw [r2]
      have q4 : (rt pr n).2 = (rt pr (pr n)).2 + 1 := by rw [r2]
      clear r1 r2
      refine ev_pos (by omega) (Ev.bind e1 (Ev.bind e2 (ev_pos rfl (ev_pos ?_ (ev_pos ?_ (ev_pos rfl (ev_pos ?_ (ev_pos ?_ h1))))))))
      · dsimp only; omega
      · dsimp only; rw [wrap_of (by omega) (by omega)]; omega
      · dsimp only; omega
      · dsimp only; rw [wrap_of (by omega) (by omega)]; omega
theorem FnDigitsSummed : laws_FnDigitsSummed.Pure := by
  intro l0 l1 hl0 hb0 hw0 hl1 hb1 hw1
  refine Ev.rounds ?_
  unfold laws_FnDigitsSummed.f laws_big.f
  by_cases hbig : (l0.length : Int) > 1048576
  · rw [if_pos hbig]; exact ev_bind rfl (ev_pos rfl (ev_eq fun _ => rfl))
  rw [if_neg hbig]
  by_cases hb : decide ((l1.length : Int) > wrap64 (1048576 - (l0.length : Int))) = true
  · exact ev_bind rfl (ev_pos hb (ev_eq fun _ => rfl))
  refine ev_bind rfl (ev_neg hb ?_)
  obtain ⟨n, hn⟩ := drawNext_ok l0 hw0
  refine ev_bind hn ?_
  have h5 := j5_ev l1 hw1
  by_cases g : goodN n = true
  · have h := goodN_iff.mp g
    obtain ⟨m, rfl⟩ := nat_of h.1
    have hm : m ≤ 1000000000000 := by omega
    obtain ⟨x6, x7, e1, e2, h4⟩ : ∃ x6 x7, Ev (fun k => impl_NextOfSum.f k (m : Int)) (x6, x7) ∧ Ev (fun k => spec_NextOfSum.f k (m : Int)) (x6, x7) ∧ Ev (fun k => laws_FnDigitsSummed.j4 k l1 (m : Int) x6 x7 (ds m)) true := by
      by_cases z : 1 ≤ m
      · rcases next_both m z hm with ⟨p, hp, e1, e2⟩ | ⟨e1, e2⟩
        · exact ⟨p, true, e1, e2, j4_ok l1 m p z hm hp h5⟩
        · exact ⟨0, false, e1, e2, j4_no l1 _ _ _ h5⟩
      · obtain ⟨e1, e2⟩ := next_out (m : Int) (by omega)
        exact ⟨0, false, e1, e2, j4_no l1 _ _ _ h5⟩
    have h0 := j0_ev l1 m x6 x7 hm h4
    refine Ev.bind e1 (Ev.bind e2 (Ev.bind (iDS_ev m hm) (Ev.bind (sDS_ev m hm) (Ev.bind (iDR_ev m hm) (Ev.bind (sDR_ev m hm) (Ev.bind (iDP_ev m hm) (Ev.bind (sDP_ev m hm) (Ev.bind (iPE_ev m hm) (Ev.bind (sPE_ev m hm) ?_)))))))))
    refine ev_neg (by simp) (ev_pos rfl (ev_neg (by simp) (ev_pos rfl (ev_neg (by simp) (ev_pos rfl (ev_pos rfl (ev_neg (by simp) (ev_pos rfl (ev_neg (by simp) (ev_pos rfl (ev_pos rfl (ev_neg (by simp) (ev_neg (by simp) (ev_neg (by simp) ?_))))))))))))))
    cases x7 with
    | true => exact ev_pos rfl h0
    | false => exact ev_neg (by simp) h0
  · have hng : ¬ (0 ≤ n ∧ n ≤ 1000000000000) := fun h => g (goodN_iff.mpr h)
    obtain ⟨e1, e2⟩ := next_out n (fun h => hng ⟨by omega, h.2⟩)
    have s1 : Ev (fun k => impl_DigitSum.f k n) (0, false) := by unfold impl_DigitSum.f; exact ev_bind (isWritten_eq n) (ev_neg g (ev_eq fun _ => rfl))
    have s2 : Ev (fun k => spec_DigitSum.f k n) (0, false) := by unfold spec_DigitSum.f; exact ev_bind (diGood_eq n) (ev_neg g (ev_eq fun _ => rfl))
    have s3 : Ev (fun k => impl_DigitRoot.f k n) (0, 0, false) := by unfold impl_DigitRoot.f; exact ev_bind (isWritten_eq n) (ev_neg g (ev_eq fun _ => rfl))
    have s4 : Ev (fun k => spec_DigitRoot.f k n) (0, 0, false) := by unfold spec_DigitRoot.f; exact ev_bind (diGood_eq n) (ev_neg g (ev_eq fun _ => rfl))
    have s5 : Ev (fun k => impl_DigitProduct.f k n) (0, false) := by unfold impl_DigitProduct.f; exact ev_bind (isWritten_eq n) (ev_neg g (ev_eq fun _ => rfl))
    have s6 : Ev (fun k => spec_DigitProduct.f k n) (0, false) := by unfold spec_DigitProduct.f; exact ev_bind (diGood_eq n) (ev_neg g (ev_eq fun _ => rfl))
    have s7 : Ev (fun k => impl_ProductEnd.f k n) (0, 0, false) := by unfold impl_ProductEnd.f; exact ev_bind (isWritten_eq n) (ev_neg g (ev_eq fun _ => rfl))
    have s8 : Ev (fun k => spec_ProductEnd.f k n) (0, 0, false) := by unfold spec_ProductEnd.f; exact ev_bind (diGood_eq n) (ev_neg g (ev_eq fun _ => rfl))
    refine Ev.bind e1 (Ev.bind e2 (Ev.bind s1 (Ev.bind s2 (Ev.bind s3 (Ev.bind s4 (Ev.bind s5 (Ev.bind s6 (Ev.bind s7 (Ev.bind s8 ?_)))))))))
    refine ev_neg (by simp) (ev_pos rfl (ev_neg (by simp) (ev_pos rfl (ev_neg (by simp) (ev_pos rfl (ev_pos rfl (ev_neg (by simp) (ev_pos rfl (ev_neg (by simp) (ev_pos rfl (ev_pos rfl (ev_neg (by simp) (ev_neg (by simp) (ev_neg (by simp) (ev_neg (by simp) (ev_succ ?_))))))))))))))))
    simp only [laws_FnDigitsSummed.j0]
    exact ev_neg (by decide) (ev_neg (by decide) (j4_no l1 _ _ _ h5))

end Go.Proofs.YtjpbadckmackbaaGreatDoor.Pure

/- NextWithSum: program and reference tell the same of every number (numbers and texts alone). -/
import Derived.Test.YtjhmocngcnnfdaaDoorPFnExactNextWithSumx3
namespace Go.Proofs.YtjhmocngcnnfdaaDoor.Pure
open Go.RowKit Go.Proofs.YtjhmocngcnnfdaaDoor.PFnExactNextWithSum Go.Proofs.YtjhmocngcnnfdaaDoorW.PrintWords Go.Proofs.YtjhmocngcnnfdaaDoorW.PrintLast
set_option linter.unusedVariables false
set_option linter.unusedSimpArgs false

theorem wrap_of {x : Int} (h0 : -9223372036854775808 ≤ x) (h1 : x ≤ 9223372036854775807) : wrap64 x = x := by unfold wrap64; omega
theorem wrap_nat {i : Nat} (h : i < 4611686018427387904) : wrap64 ((i : Int) + 1) = ((i + 1 : Nat) : Int) := by unfold wrap64; omega
theorem ev_eq {α : Type} {g : Nat → Option α} {r : α} (h : ∀ k, g k = some r) : Ev g r := ⟨0, fun k _ => h k⟩
theorem ev_bind {α β : Type} {x : Option α} {f : Nat → α → Option β} {a : α} {r : β} (h : x = some a) (k : Ev (fun n => f n a) r) : Ev (fun n => x.bind (f n)) r := by subst h; exact k
theorem ev_pos {α : Type} {c : Prop} [Decidable c] {g f : Nat → Option α} {r : α} (h : c) (k : Ev g r) : Ev (fun n => if c then g n else f n) r := by simp only [if_pos h]; exact k
theorem ev_neg {α : Type} {c : Prop} [Decidable c] {g f : Nat → Option α} {r : α} (h : ¬ c) (k : Ev f r) : Ev (fun n => if c then g n else f n) r := by simp only [if_neg h]; exact k
theorem ev_from {α : Type} {g : Nat → Option α} {r : α} (K : Nat) (h : ∀ k, K ≤ k → g k = some r) : Ev g r := ⟨K, h⟩

/-! ### bytes of a text -/
theorem size_len (t : ByteArray) : t.data.toList.length = t.size := by rw [Array.length_toList]; rfl
theorem bt_get (t : ByteArray) (i : Nat) (h : i < t.data.toList.length) : bt t (i : Int) = ((t.data.toList[i]).toNat : Int) := by
  unfold bt
  rw [dif_pos (by rw [Int.toNat_natCast]; simpa using h)]
  simp only [Int.toNat_natCast]
  rfl
theorem ev_succ {α : Type} {g : Nat → Option α} {r : α} (h : Ev (fun k => g (k + 1)) r) : Ev g r := by
  obtain ⟨K, hK⟩ := h
  refine ev_from (K + 1) (fun k hk => ?_)
  obtain ⟨k, rfl⟩ : ∃ m, k = m + 1 := ⟨k - 1, by omega⟩
  exact hK k (by omega)
theorem ext_list (s : ByteArray) (a b : Nat) (hb : b ≤ s.size) : (s.extract a b).data.toList = (s.data.toList.take b).drop a := by
  rw [ByteArray.data_extract, Array.toList_extract, List.extract_eq_take_drop]
  rw [List.drop_take]
theorem take_list (s : ByteArray) (i : Nat) (h : i ≤ s.size) : (s.extract 0 i).data.toList = s.data.toList.take i := by rw [ext_list s 0 i h]; rfl
theorem drop_list (s : ByteArray) (i : Nat) : (s.extract i s.size).data.toList = s.data.toList.drop i := by
  rw [ext_list s i s.size (Nat.le_refl _), List.take_of_length_le (by rw [size_len]; exact Nat.le_refl _)]
theorem mk_data (s : ByteArray) : (⟨s.data.toList.toArray⟩ : ByteArray) = s := by cases s; simp
theorem of_list {s : ByteArray} {l : List UInt8} (h : s.data.toList = l) : s = ⟨l.toArray⟩ := by rw [← h, mk_data]
theorem list_of (l : List UInt8) : (⟨l.toArray⟩ : ByteArray).data.toList = l := by simp
theorem mk_size (l : List UInt8) : (⟨l.toArray⟩ : ByteArray).size = l.length := by rw [← size_len, list_of]
theorem mk_append (a b : List UInt8) : (⟨a.toArray⟩ : ByteArray) ++ ⟨b.toArray⟩ = ⟨(a ++ b).toArray⟩ := by
  apply of_list; rw [ByteArray.data_append, Array.toList_append, list_of, list_of]
theorem l1In_eq (n lo hi : Int) : spec_l1In.f n lo hi = some (decide (lo ≤ n ∧ n ≤ hi)) := by
  unfold spec_l1In.f
  by_cases h : n ≥ lo
  · rw [if_pos h]; congr 1; simp; intro _; omega
  · rw [if_neg h]; congr 1; simp; intro; omega
theorem within_eq (n lo hi : Int) : impl_within.f n lo hi = some (decide (lo ≤ n ∧ n ≤ hi)) := by
  unfold impl_within.f
  by_cases h : lo ≤ n
  · rw [if_pos h]; congr 1; simp; intro _; omega
  · rw [if_neg h]; congr 1; simp; intro; omega

/-! ### digit sums, and how many numbers below one have a sum -/
def ds (n : Nat) : Int := if h : n < 10 then (n : Int) else ((n % 10 : Nat) : Int) + ds (n / 10)
termination_by n
decreasing_by omega
theorem ds_small {n : Nat} (h : n < 10) : ds n = n := by rw [ds, dif_pos h]
theorem ds_step (n : Nat) : ds n = ((n % 10 : Nat) : Int) + ds (n / 10) := by
  by_cases h : n < 10
  · rw [ds_small h, Nat.div_eq_of_lt h, Nat.mod_eq_of_lt h, ds_small (by omega)]; simp
  · rw [ds, dif_neg h]
theorem ds_cons (a d : Nat) (h : d < 10) : ds (10 * a + d) = ds a + d := by
  rw [ds_step, show (10 * a + d) % 10 = d by omega, show (10 * a + d) / 10 = a by omega]; omega
theorem ds_nonneg (n : Nat) : 0 ≤ ds n := by
  induction n using Nat.strongRecOn with
  | _ n ih =>
    by_cases h : n < 10
    · rw [ds_small h]; omega
    · rw [ds_step]; have := ih (n / 10) (by omega); omega
theorem ds_pos {n : Nat} (h : 0 < n) : 0 < ds n := by
  induction n using Nat.strongRecOn with
  | _ n ih =>
    by_cases h1 : n < 10
    · rw [ds_small h1]; omega
    · rw [ds_step]; have := ih (n / 10) (by omega) (by omega); omega
theorem ds_le (k : Nat) : ∀ n, n < 10 ^ k → ds n ≤ 9 * k := by
  induction k with
  | zero => intro n h; have : n = 0 := by simpa using h
            subst this; rw [ds_small (by omega)]; omega
  | succ k ih =>
    intro n h
    rw [ds_step]
    have := ih (n / 10) (by rw [Nat.pow_succ] at h; omega)
    omega
theorem ds_split (k : Nat) : ∀ n, ds n = ds (n % 10 ^ k) + ds (n / 10 ^ k) := by
  induction k with
  | zero => intro n; simp [ds_small, Nat.mod_one]
  | succ k ih =>
    intro n
    rw [ds_step n, ih (n / 10), ds_step (n % 10 ^ (k + 1))]
    have h1 : n % 10 ^ (k + 1) % 10 = n % 10 := Nat.mod_mod_of_dvd n ⟨10 ^ k, by rw [Nat.pow_succ, Nat.mul_comm]⟩
    have h2 : n % 10 ^ (k + 1) / 10 = n / 10 % 10 ^ k := by rw [Nat.pow_succ, Nat.mul_comm, Nat.mod_mul_right_div_self]
    have h3 : n / 10 / 10 ^ k = n / 10 ^ (k + 1) := by rw [Nat.div_div_eq_div_mul, Nat.pow_succ, Nat.mul_comm]
    rw [h1, h2, h3]; omega
/-- how many texts of k digits have a sum -/
def W : Nat → Int → Int
  | 0, s => if s = 0 then 1 else 0
  | k + 1, s => W k s + W k (s - 1) + W k (s - 2) + W k (s - 3) + W k (s - 4) + W k (s - 5) + W k (s - 6) + W k (s - 7) + W k (s - 8) + W k (s - 9)
theorem W_neg (k : Nat) : ∀ s, s < 0 → W k s = 0 := by
  induction k with
  | zero => intro s h; simp only [W]; rw [if_neg (by omega)]
  | succ k ih => intro s h; simp only [W]; repeat rw [ih _ (by omega)]
                 rfl
theorem W_big (k : Nat) : ∀ s, 9 * (k : Int) < s → W k s = 0 := by
  induction k with
  | zero => intro s h; simp only [W]; rw [if_neg (by omega)]
  | succ k ih => intro s h; simp only [W]; repeat rw [ih _ (by omega)]
                 rfl
theorem W_nonneg (k : Nat) : ∀ s, 0 ≤ W k s := by
  induction k with
  | zero => intro s; simp only [W]; split <;> omega
  | succ k ih => intro s; simp only [W]; have h := fun x => ih (s - x); have h0 := ih s; have h1 := h 1; have h2 := h 2; have h3 := h 3; have h4 := h 4; have h5 := h 5; have h6 := h 6; have h7 := h 7; have h8 := h 8; have h9 := h 9; omega
theorem W_le (k : Nat) : ∀ s, W k s ≤ 10 ^ k := by
  induction k with
  | zero => intro s; simp only [W]; split <;> simp
  | succ k ih => intro s; simp only [W]; have h := fun x => ih (s - x); have h0 := ih s; have h1 := h 1; have h2 := h 2; have h3 := h 3; have h4 := h 4; have h5 := h 5; have h6 := h 6; have h7 := h 7; have h8 := h 8; have h9 := h 9; rw [Int.pow_succ]; omega
/-- how many numbers below n have a sum -/
def cnt (s : Int) : Nat → Int
  | 0 => 0
  | n + 1 => cnt s n + if ds n = s then 1 else 0
theorem cnt_mono (s : Int) {m n : Nat} (h : m ≤ n) : cnt s m ≤ cnt s n := by
  induction n with
  | zero => have : m = 0 := by omega
            subst this; exact Int.le_refl _
  | succ n ih =>
    by_cases e : m = n + 1
    · subst e; exact Int.le_refl _
    · have := ih (by omega); simp only [cnt]; split <;> omega
theorem cnt_nonneg (s : Int) (n : Nat) : 0 ≤ cnt s n := cnt_mono s (m := 0) (Nat.zero_le n)
theorem cnt_le (s : Int) (n : Nat) : cnt s n ≤ n := by
  induction n with
  | zero => simp [cnt]
  | succ n ih => simp only [cnt]; split <;> omega
theorem cnt_hit {s : Int} {n : Nat} (h : ds n = s) : cnt s (n + 1) = cnt s n + 1 := by simp only [cnt]; rw [if_pos h]
theorem cnt_miss {s : Int} {n : Nat} (h : ds n ≠ s) : cnt s (n + 1) = cnt s n := by simp only [cnt]; rw [if_neg h]; omega
theorem cnt_gap {s : Int} {m n : Nat} (h : m ≤ n) (hn : ∀ x, m ≤ x → x < n → ds x ≠ s) : cnt s n = cnt s m := by
  induction n with
  | zero => have : m = 0 := by omega
            subst this; rfl
  | succ n ih =>
    by_cases e : m = n + 1
    · subst e; rfl
    · rw [cnt_miss (hn n (by omega) (by omega)), ih (by omega) (fun x h1 h2 => hn x h1 (by omega))]
theorem cnt_inj {s : Int} {m n : Nat} (hm : ds m = s) (hn : ds n = s) (h : cnt s m = cnt s n) : m = n := by
  rcases Nat.lt_trichotomy m n with h1 | h1 | h1
  · have := cnt_mono s (m := m + 1) (n := n) h1; rw [cnt_hit hm] at this; omega
  · exact h1
  · have := cnt_mono s (m := n + 1) (n := m) h1; rw [cnt_hit hn] at this; omega
theorem cnt_block (k : Nat) : ∀ (s : Int) (a : Nat), cnt s (10 ^ k * (a + 1)) = cnt s (10 ^ k * a) + W k (s - ds a) := by
  induction k with
  | zero =>
    intro s a
    rw [Nat.pow_zero, Nat.one_mul, Nat.one_mul]
    simp only [W, cnt]
    by_cases h : ds a = s
    · rw [if_pos h, if_pos (by omega)]
    · rw [if_neg h, if_neg (by omega)]
  | succ k ih =>
    intro s a
    have st : ∀ d, d < 10 → cnt s (10 ^ k * (10 * a + d + 1)) = cnt s (10 ^ k * (10 * a + d)) + W k (s - ds a - d) := fun d hd => by
      rw [ih s (10 * a + d), ds_cons a d hd, show s - (ds a + (d : Int)) = s - ds a - d by omega]
    have e0 : 10 ^ (k + 1) * a = 10 ^ k * (10 * a + 0) := by rw [Nat.pow_succ, Nat.mul_assoc]; rfl
    have e1 : 10 ^ (k + 1) * (a + 1) = 10 ^ k * (10 * a + 9 + 1) := by rw [Nat.pow_succ, Nat.mul_assoc]; congr 1
    rw [e0, e1, st 9 (by omega), st 8 (by omega), st 7 (by omega), st 6 (by omega), st 5 (by omega), st 4 (by omega), st 3 (by omega), st 2 (by omega), st 1 (by omega), st 0 (by omega)]
    simp only [W]
    simp
    omega

/-! ### texts of digits: sums, numbers -/
def dv (b : UInt8) : Int := ((b.toNat : Int) - 48) % 256
theorem dv_range (b : UInt8) : 0 ≤ dv b ∧ dv b ≤ 255 := by unfold dv; omega
def lsum : List UInt8 → Int
  | [] => 0
  | b :: l => dv b + lsum l
theorem lsum_range (l : List UInt8) : 0 ≤ lsum l ∧ lsum l ≤ 255 * l.length := by
  induction l with
  | nil => simp [lsum]
  | cons b l ih => have := dv_range b; simp only [lsum, List.length_cons]; omega
theorem lsum_append (a b : List UInt8) : lsum (a ++ b) = lsum a + lsum b := by
  induction a with
  | nil => simp [lsum]
  | cons x a ih => simp only [List.cons_append, lsum, ih]; omega
def dch (d : Nat) : UInt8 := UInt8.ofNat (48 + d)
theorem dch_nat {d : Nat} (h : d < 10) : (dch d).toNat = 48 + d := by unfold dch; rw [UInt8.toNat_ofNat']; omega
theorem dv_dch {d : Nat} (h : d < 10) : dv (dch d) = d := by unfold dv; rw [dch_nat h]; omega
/-- k digits of n, zeros in front -/
def pad : Nat → Nat → List UInt8
  | 0, _ => []
  | k + 1, n => pad k (n / 10) ++ [dch (n % 10)]
theorem pad_length (k : Nat) : ∀ n, (pad k n).length = k := by
  induction k with
  | zero => intro n; rfl
  | succ k ih => intro n; simp [pad, ih]
theorem pad_zero (k : Nat) : pad k 0 = List.replicate k 48 := by
  induction k with
  | zero => rfl
  | succ k ih => rw [List.replicate_succ', ← ih]; rfl
theorem pad_take (k : Nat) : ∀ (j n : Nat), (pad (k + j) n).take k = pad k (n / 10 ^ j) := by
  intro j
  induction j with
  | zero => intro n; rw [Nat.add_zero, List.take_of_length_le (by rw [pad_length]; exact Nat.le_refl _)]; simp
  | succ j ih =>
    intro n
    rw [show k + (j + 1) = (k + j) + 1 by omega]
    simp only [pad]
    rw [List.take_append_of_le_length (by rw [pad_length]; omega), ih, Nat.div_div_eq_div_mul, Nat.pow_succ, Nat.mul_comm]
theorem pad_drop (j : Nat) : ∀ (k n : Nat), (pad (k + j) n).drop k = pad j (n % 10 ^ j) := by
  induction j with
  | zero => intro k n; rw [Nat.add_zero, List.drop_eq_nil_of_le (by rw [pad_length]; exact Nat.le_refl _)]; rfl
  | succ j ih =>
    intro k n
    rw [show k + (j + 1) = (k + j) + 1 by omega]
    simp only [pad]
    rw [List.drop_append_of_le_length (by rw [pad_length]; omega), ih]
    congr 1
    · congr 1
      rw [Nat.pow_succ, Nat.mul_comm, Nat.mod_mul_right_div_self]
    · congr 2
      rw [Nat.pow_succ, Nat.mul_comm]; exact (Nat.mod_mul_right_mod n 10 (10 ^ j)).symm
theorem pad_get (k n i : Nat) (h : i < (pad k n).length) : (pad k n)[i] = dch (n / 10 ^ (k - 1 - i) % 10) := by
  induction k generalizing n i with
  | zero => simp [pad] at h
  | succ k ih =>
    rw [pad_length] at h
    simp only [pad]
    by_cases c : i < k
    · rw [List.getElem_append_left (by rw [pad_length]; exact c), ih _ _ (by rw [pad_length]; exact c), Nat.div_div_eq_div_mul, show k + 1 - 1 - i = (k - 1 - i) + 1 by omega, Nat.pow_succ, Nat.mul_comm]
    · have : i = k := by omega
      subst this
      rw [List.getElem_append_right (by rw [pad_length]; exact Nat.le_refl _)]
      simp [pad_length]
theorem lsum_pad (k : Nat) : ∀ n, n < 10 ^ k → lsum (pad k n) = ds n := by
  induction k with
  | zero => intro n h; have : n = 0 := by simpa using h
            subst this; rw [ds_small (by omega)]; rfl
  | succ k ih =>
    intro n h
    simp only [pad]
    rw [lsum_append, ih _ (by rw [Nat.pow_succ] at h; omega), ds_step n]
    simp only [lsum, dv_dch (Nat.mod_lt n (by omega : 0 < 10))]; omega
def lnum (a : Int) : List UInt8 → Int
  | [] => a
  | b :: l => lnum (10 * a + dv b) l
theorem lnum_append (l m : List UInt8) : ∀ a, lnum a (l ++ m) = lnum (lnum a l) m := by
  induction l with
  | nil => intro a; rfl
  | cons b l ih => intro a; simp only [List.cons_append, lnum, ih]
theorem lnum_pad (k : Nat) : ∀ n, n < 10 ^ k → lnum 0 (pad k n) = n := by
  induction k with
  | zero => intro n h; have : n = 0 := by simpa using h
            subst this; rfl
  | succ k ih =>
    intro n h
    simp only [pad]
    rw [lnum_append, ih _ (by rw [Nat.pow_succ] at h; omega)]
    simp only [lnum, dv_dch (Nat.mod_lt n (by omega : 0 < 10))]; omega
theorem dec_pad (n : Nat) : Lib.decDigits n = pad (Lib.nDigits n) n := by
  induction n using Nat.strongRecOn with
  | _ n ih =>
    by_cases h : n < 10
    · rw [Lib.decDigits, dif_pos h, Lib.nDigits_small h]; simp [pad, dch, Nat.mod_eq_of_lt h]
    · rw [Lib.decDigits, dif_neg h, Lib.nDigits_big h, ih _ (by omega)]; rfl
theorem pad_front (j k n : Nat) (h : n < 10 ^ k) : pad (j + k) n = List.replicate j 48 ++ pad k n := by
  induction k generalizing n with
  | zero => have : n = 0 := by simpa using h
            subst this; simp [pad, pad_zero]
  | succ k ih =>
    rw [show j + (k + 1) = (j + k) + 1 by omega]
    simp only [pad]
    rw [ih _ (by rw [Nat.pow_succ] at h; omega), List.append_assoc]

/-! ### the next number with the same digit sum, and the last one before -/
def fillLo : Nat → Nat → Nat
  | 0, _ => 0
  | k + 1, s => (s - 9 * k) * 10 ^ k + fillLo k (s - (s - 9 * k))
def fillHi : Nat → Nat → Nat
  | 0, _ => 0
  | k + 1, s => min 9 s * 10 ^ k + fillHi k (s - min 9 s)
theorem pow10_pos (k : Nat) : 0 < 10 ^ k := Nat.pow_pos (by omega)
theorem ds_join (k a r : Nat) (h : r < 10 ^ k) : ds (a * 10 ^ k + r) = ds a + ds r := by
  rw [ds_split k, Nat.mul_comm a, Nat.mul_add_mod, Nat.mod_eq_of_lt h, Nat.mul_add_div (pow10_pos k), Nat.div_eq_of_lt h, Nat.add_zero]; omega
theorem join_lt {k a r b : Nat} (h : r < 10 ^ k) (ha : a < b) : a * 10 ^ k + r < b * 10 ^ k := by
  have : (a + 1) * 10 ^ k ≤ b * 10 ^ k := Nat.mul_le_mul_right _ ha
  rw [Nat.add_mul] at this; omega
theorem fillLo_spec (k : Nat) : ∀ s, s ≤ 9 * k → fillLo k s < 10 ^ k ∧ ds (fillLo k s) = s ∧ ∀ m, m < 10 ^ k → ds m = s → fillLo k s ≤ m := by
  induction k with
  | zero => intro s h; have : s = 0 := by omega
            subst this; exact ⟨by simp [fillLo], by simp [fillLo, ds_small], fun m _ _ => Nat.zero_le m⟩
  | succ k ih =>
    intro s h
    obtain ⟨h1, h2, h3⟩ := ih (s - (s - 9 * k)) (by omega)
    simp only [fillLo]
    have hd : s - 9 * k < 10 := by omega
    refine ⟨by rw [Nat.pow_succ, Nat.mul_comm (10 ^ k)]; exact join_lt h1 hd, by rw [ds_join k _ _ h1, h2, ds_small hd]; omega, fun m hm hs => ?_⟩
    have hm0 : m = m / 10 ^ k * 10 ^ k + m % 10 ^ k := by rw [Nat.mul_comm]; exact (Nat.div_add_mod m _).symm
    have hr : m % 10 ^ k < 10 ^ k := Nat.mod_lt _ (pow10_pos k)
    have hq : m / 10 ^ k < 10 := by rw [Nat.pow_succ] at hm; exact (Nat.div_lt_iff_lt_mul (pow10_pos k)).mpr (by rw [Nat.mul_comm]; exact hm)
    have hsum : ds m = ((m / 10 ^ k : Nat) : Int) + ds (m % 10 ^ k) := by rw [ds_split k m, ds_small hq]; omega
    have hrl := ds_le k _ hr
    rcases Nat.lt_trichotomy (s - 9 * k) (m / 10 ^ k) with c | c | c
    · have := join_lt h1 c; rw [hm0]; omega
    · have := h3 (m % 10 ^ k) hr (by omega); rw [hm0, ← c]; omega
    · exfalso; clear hm0 hm hr h1 h2 h3 ih; generalize m / 10 ^ k = q at *; omega
theorem fillHi_spec (k : Nat) : ∀ s, s ≤ 9 * k → fillHi k s < 10 ^ k ∧ ds (fillHi k s) = s ∧ ∀ m, m < 10 ^ k → ds m = s → m ≤ fillHi k s := by
  induction k with
  | zero => intro s h; have : s = 0 := by omega
            subst this; exact ⟨by simp [fillHi], by simp [fillHi, ds_small], fun m hm _ => by simp at hm; subst hm; exact Nat.zero_le _⟩
  | succ k ih =>
    intro s h
    obtain ⟨h1, h2, h3⟩ := ih (s - min 9 s) (by omega)
    simp only [fillHi]
    have hd : min 9 s < 10 := by omega
    refine ⟨by rw [Nat.pow_succ, Nat.mul_comm (10 ^ k)]; exact join_lt h1 hd, by rw [ds_join k _ _ h1, h2, ds_small hd]; omega, fun m hm hs => ?_⟩
    have hm0 : m = m / 10 ^ k * 10 ^ k + m % 10 ^ k := by rw [Nat.mul_comm]; exact (Nat.div_add_mod m _).symm
    have hr : m % 10 ^ k < 10 ^ k := Nat.mod_lt _ (pow10_pos k)
    have hq : m / 10 ^ k < 10 := by rw [Nat.pow_succ] at hm; exact (Nat.div_lt_iff_lt_mul (pow10_pos k)).mpr (by rw [Nat.mul_comm]; exact hm)
    have hsum : ds m = ((m / 10 ^ k : Nat) : Int) + ds (m % 10 ^ k) := by rw [ds_split k m, ds_small hq]; omega
    have hr0 := ds_nonneg (m % 10 ^ k)
    rcases Nat.lt_trichotomy (m / 10 ^ k) (min 9 s) with c | c | c
    · have := join_lt hr c; rw [hm0]; omega
    · have := h3 (m % 10 ^ k) hr (by omega); rw [hm0, c]; omega
    · omega
theorem no_next (n : Nat) (p : Nat) (hf : ∀ j, j < p → n / 10 ^ j % 10 = 9 ∨ ds (n % 10 ^ j) = 0) : ∀ y, n % 10 ^ p < y → y < 10 ^ p → ds y ≠ ds (n % 10 ^ p) := by
  induction p with
  | zero => intro y h1 h2; simp at h2; omega
  | succ p ih =>
    intro y h1 h2 h3
    have ih := ih (fun j hj => hf j (by omega))
    have e : n % 10 ^ (p + 1) = n / 10 ^ p % 10 * 10 ^ p + n % 10 ^ p := by rw [Nat.pow_succ, Nat.mod_mul, Nat.mul_comm (10 ^ p)]; omega
    have hy : y = y / 10 ^ p * 10 ^ p + y % 10 ^ p := by rw [Nat.mul_comm]; exact (Nat.div_add_mod y _).symm
    have hr : y % 10 ^ p < 10 ^ p := Nat.mod_lt _ (pow10_pos p)
    have hn : n % 10 ^ p < 10 ^ p := Nat.mod_lt _ (pow10_pos p)
    have hq : y / 10 ^ p < 10 := by rw [Nat.pow_succ] at h2; exact (Nat.div_lt_iff_lt_mul (pow10_pos p)).mpr (by rw [Nat.mul_comm]; exact h2)
    have hd : n / 10 ^ p % 10 < 10 := Nat.mod_lt _ (by omega)
    have s1 : ds y = ((y / 10 ^ p : Nat) : Int) + ds (y % 10 ^ p) := by rw [ds_split p y, ds_small hq]; omega
    have s2 : ds (n % 10 ^ (p + 1)) = ((n / 10 ^ p % 10 : Nat) : Int) + ds (n % 10 ^ p) := by rw [e, ds_join p _ _ hn, ds_small hd]
    have hy0 := ds_nonneg (y % 10 ^ p)
    rcases Nat.lt_trichotomy (n / 10 ^ p % 10) (y / 10 ^ p) with c | c | c
    · rcases hf p (by omega) with h | h <;> omega
    · rw [e] at h1; rw [hy] at h1; rw [← c] at h1; exact ih (y % 10 ^ p) (by omega) hr (by omega)
    · have := join_lt hr c; rw [← hy] at this; rw [e] at h1; omega
theorem no_last (n : Nat) (p : Nat) (hf : ∀ j, j < p → n / 10 ^ j % 10 = 0 ∨ ds (n % 10 ^ j) = 9 * j) : ∀ y, y < n % 10 ^ p → ds y ≠ ds (n % 10 ^ p) := by
  induction p with
  | zero => intro y h1; simp [Nat.mod_one] at h1
  | succ p ih =>
    intro y h1 h3
    have ih := ih (fun j hj => hf j (by omega))
    have e : n % 10 ^ (p + 1) = n / 10 ^ p % 10 * 10 ^ p + n % 10 ^ p := by rw [Nat.pow_succ, Nat.mod_mul, Nat.mul_comm (10 ^ p)]; omega
    have hy : y = y / 10 ^ p * 10 ^ p + y % 10 ^ p := by rw [Nat.mul_comm]; exact (Nat.div_add_mod y _).symm
    have hr : y % 10 ^ p < 10 ^ p := Nat.mod_lt _ (pow10_pos p)
    have hn : n % 10 ^ p < 10 ^ p := Nat.mod_lt _ (pow10_pos p)
    have hd : n / 10 ^ p % 10 < 10 := Nat.mod_lt _ (by omega)
    have h2 : y < 10 ^ (p + 1) := Nat.lt_trans h1 (Nat.mod_lt _ (pow10_pos _))
    have hq : y / 10 ^ p < 10 := by rw [Nat.pow_succ] at h2; exact (Nat.div_lt_iff_lt_mul (pow10_pos p)).mpr (by rw [Nat.mul_comm]; exact h2)
    have s1 : ds y = ((y / 10 ^ p : Nat) : Int) + ds (y % 10 ^ p) := by rw [ds_split p y, ds_small hq]; omega
    have s2 : ds (n % 10 ^ (p + 1)) = ((n / 10 ^ p % 10 : Nat) : Int) + ds (n % 10 ^ p) := by rw [e, ds_join p _ _ hn, ds_small hd]
    have hy0 := ds_le p _ hr
    rcases Nat.lt_trichotomy (y / 10 ^ p) (n / 10 ^ p % 10) with c | c | c
    · exfalso; have hfp := hf p (by omega); clear hf hy hr hn h2 e ih h1; generalize y / 10 ^ p = q at *; generalize n / 10 ^ p % 10 = t at *; rcases hfp with h | h <;> omega
    · rw [e] at h1; rw [hy] at h1; rw [c] at h1; exact ih (y % 10 ^ p) (by omega) (by omega)
    · have := join_lt hn c; rw [← e] at this; rw [hy] at h1; omega
theorem ds_succ {a : Nat} (h : a % 10 < 9) : ds (a + 1) = ds a + 1 := by
  rw [ds_step, ds_step a, show (a + 1) % 10 = a % 10 + 1 by omega, show (a + 1) / 10 = a / 10 by omega]; omega
theorem ds_pred {a : Nat} (h : 0 < a % 10) : ds (a - 1) = ds a - 1 := by
  rw [ds_step, ds_step a, show (a - 1) % 10 = a % 10 - 1 by omega, show (a - 1) / 10 = a / 10 by omega]; omega
theorem div_mod_parts (x p : Nat) : x = x / 10 ^ p * 10 ^ p + x % 10 ^ p := by rw [Nat.mul_comm]; exact (Nat.div_add_mod x _).symm
/-- the next number with the same digit sum -/
theorem next_spec (n p s : Nat) (hs : ds (n % 10 ^ p) = (s : Int) + 1) (hd : n / 10 ^ p % 10 < 9) (hf : ∀ j, j < p → n / 10 ^ j % 10 = 9 ∨ ds (n % 10 ^ j) = 0) :
    n < (n / 10 ^ p + 1) * 10 ^ p + fillLo p s ∧ ds ((n / 10 ^ p + 1) * 10 ^ p + fillLo p s) = ds n ∧ (∀ x, n < x → x < (n / 10 ^ p + 1) * 10 ^ p + fillLo p s → ds x ≠ ds n) ∧ fillLo p s < 10 ^ p := by
  have hn : n % 10 ^ p < 10 ^ p := Nat.mod_lt _ (pow10_pos p)
  have hl := ds_le p _ hn
  obtain ⟨f1, f2, f3⟩ := fillLo_spec p s (by omega)
  have hn0 := div_mod_parts n p
  have hjn := join_lt hn (Nat.lt_succ_self (n / 10 ^ p))
  have sn : ds n = ds (n / 10 ^ p) + ds (n % 10 ^ p) := by rw [ds_split p n]; omega
  refine ⟨by rw [← hn0] at hjn; exact Nat.lt_of_lt_of_le hjn (Nat.le_add_right _ _), by rw [ds_join p _ _ f1, ds_succ hd, f2, sn, hs]; omega, fun x h1 h2 h3 => ?_, f1⟩
  have hx0 := div_mod_parts x p
  have hx : x % 10 ^ p < 10 ^ p := Nat.mod_lt _ (pow10_pos p)
  have sx : ds x = ds (x / 10 ^ p) + ds (x % 10 ^ p) := by rw [ds_split p x]; omega
  rcases Nat.lt_trichotomy (x / 10 ^ p) (n / 10 ^ p) with c | c | c
  · have := join_lt hx c; rw [← hx0] at this; omega
  · refine no_next n p hf (x % 10 ^ p) ?_ hx ?_
    · rw [hn0, hx0, c] at h1; omega
    · rw [sx, sn, c] at h3; omega
  · by_cases c2 : x / 10 ^ p = n / 10 ^ p + 1
    · have := f3 (x % 10 ^ p) hx (by rw [sx, sn, c2, ds_succ hd, hs] at h3; omega)
      rw [hx0, c2] at h2; omega
    · have := join_lt f1 (show n / 10 ^ p + 1 < x / 10 ^ p by omega); rw [hx0] at h2; omega
/-- the last number before one with the same digit sum -/
theorem last_spec (n p s : Nat) (hs : ds (n % 10 ^ p) = (s : Int) - 1) (hl : s ≤ 9 * p) (hd : 0 < n / 10 ^ p % 10) (hf : ∀ j, j < p → n / 10 ^ j % 10 = 0 ∨ ds (n % 10 ^ j) = 9 * j) :
    (n / 10 ^ p - 1) * 10 ^ p + fillHi p s < n ∧ ds ((n / 10 ^ p - 1) * 10 ^ p + fillHi p s) = ds n ∧ (∀ x, (n / 10 ^ p - 1) * 10 ^ p + fillHi p s < x → x < n → ds x ≠ ds n) ∧ fillHi p s < 10 ^ p := by
  have hn : n % 10 ^ p < 10 ^ p := Nat.mod_lt _ (pow10_pos p)
  obtain ⟨f1, f2, f3⟩ := fillHi_spec p s hl
  have hn0 := div_mod_parts n p
  have hq : 0 < n / 10 ^ p := by have := Nat.mod_le (n / 10 ^ p) 10; omega
  have hjn := join_lt f1 (show n / 10 ^ p - 1 < n / 10 ^ p by omega)
  have sn : ds n = ds (n / 10 ^ p) + ds (n % 10 ^ p) := by rw [ds_split p n]; omega
  refine ⟨by omega, by rw [ds_join p _ _ f1, ds_pred hd, f2, sn, hs]; omega, fun x h1 h2 h3 => ?_, f1⟩
  have hx0 := div_mod_parts x p
  have hx : x % 10 ^ p < 10 ^ p := Nat.mod_lt _ (pow10_pos p)
  have sx : ds x = ds (x / 10 ^ p) + ds (x % 10 ^ p) := by rw [ds_split p x]; omega
  rcases Nat.lt_trichotomy (x / 10 ^ p) (n / 10 ^ p) with c | c | c
  · by_cases c2 : x / 10 ^ p = n / 10 ^ p - 1
    · have := f3 (x % 10 ^ p) hx (by rw [sx, sn, c2, ds_pred hd, hs] at h3; omega)
      rw [hx0, c2] at h1; omega
    · have := join_lt hx (show x / 10 ^ p < n / 10 ^ p - 1 by omega); rw [← hx0] at this; omega
  · refine no_last n p hf (x % 10 ^ p) ?_ ?_
    · rw [hn0, hx0, c] at h2; omega
    · rw [sx, sn, c] at h3; omega
  · have := join_lt hn c; rw [← hn0] at this; omega

/-! ### lists told by a function -/
def tab (n : Nat) (f : Nat → Int) : List Int := (List.range n).map f
theorem tab_len (n : Nat) (f : Nat → Int) : (tab n f).length = n := by simp [tab]
theorem tab_rd {n : Nat} {f : Nat → Int} {i : Nat} (h : i < n) : rd (tab n f) (i : Int) = f i := by
  unfold rd tab
  rw [Int.toNat_natCast, List.getD_eq_getElem?_getD, List.getElem?_eq_getElem (by simpa using h)]
  simp
theorem tab_set (n : Nat) (f : Nat → Int) (j : Nat) (v : Int) : (tab n f).set j v = tab n (fun i => if i = j then v else f i) := by
  unfold tab
  apply List.ext_getElem
  · simp
  · intro i h1 h2
    rw [List.getElem_set]
    simp only [List.getElem_map, List.getElem_range]
    by_cases c : j = i
    · rw [if_pos c, if_pos c.symm]
    · rw [if_neg c, if_neg (fun e => c e.symm)]
theorem tab_zero (n : Nat) : List.replicate n (0 : Int) = tab n (fun _ => 0) := by
  unfold tab
  apply List.ext_getElem <;> simp
theorem tab_congr {n : Nat} {f g : Nat → Int} (h : ∀ i, i < n → f i = g i) : tab n f = tab n g := by
  unfold tab
  apply List.ext_getElem
  · simp
  · intro i h1 h2
    simp only [List.getElem_map, List.getElem_range]
    exact h i (by simpa using h1)

/-! ### the table of ways -/
theorem p10 (k : Nat) : (10 : Int) ^ k = ((10 ^ k : Nat) : Int) := by rw [Int.natCast_pow]; rfl
theorem p10_le {a b : Nat} (h : a ≤ b) : (10 : Int) ^ a ≤ 10 ^ b := by rw [p10, p10]; exact Int.ofNat_le.mpr (Nat.pow_le_pow_right (by omega) h)
def wl (k : Nat) : List Int := tab (9 * k + 1) (fun i => W k i)
/-- what counts s, s + 1, .. bring to count i, digits below m alone -/
def T (k : Nat) (s i : Int) : Nat → Int
  | 0 => 0
  | m + 1 => T k s i m + if s ≤ i - m then W k (i - m) else 0
theorem T_nonneg (k : Nat) (s i : Int) (m : Nat) : 0 ≤ T k s i m := by
  induction m with
  | zero => exact Int.le_refl _
  | succ m ih => simp only [T]; have := W_nonneg k (i - m); split <;> omega
theorem T_step (k : Nat) (s i : Int) (m : Nat) : T k s i m = T k (s + 1) i m + if s ≤ i ∧ i < s + m then W k s else 0 := by
  induction m with
  | zero => simp only [T]; rw [if_neg (by omega)]; try rfl
  | succ m ih =>
    simp only [T]
    rw [ih]
    by_cases h : i - m = s
    · rw [h, if_pos (Int.le_refl s), if_neg (show ¬ (s + 1 ≤ s) by omega), if_neg (show ¬ (s ≤ i ∧ i < s + m) by omega), if_pos (show s ≤ i ∧ i < s + ((m + 1 : Nat) : Int) by omega)]; try omega
    · by_cases c : s ≤ i ∧ i < s + m
      · rw [if_pos c, if_pos (show s ≤ i ∧ i < s + ((m + 1 : Nat) : Int) by omega)]
        by_cases d : s ≤ i - m
        · rw [if_pos d, if_pos (by omega)]; omega
        · rw [if_neg d, if_neg (by omega)]; omega
      · rw [if_neg c, if_neg (show ¬ (s ≤ i ∧ i < s + ((m + 1 : Nat) : Int)) by omega)]
        by_cases d : s ≤ i - m
        · rw [if_pos d, if_pos (by omega)]; omega
        · rw [if_neg d, if_neg (by omega)]; try omega
theorem T_end (k : Nat) (s i : Int) (m : Nat) (h : 9 * (k : Int) < s) : T k s i m = 0 := by
  induction m with
  | zero => rfl
  | succ m ih =>
    simp only [T]
    rw [ih]
    by_cases c : s ≤ i - m
    · rw [if_pos c, W_big k _ (by omega)]; try rfl
    · rw [if_neg c]; try rfl
theorem T_all (k : Nat) (i : Int) : T k 0 i 10 = W (k + 1) i := by
  have e : ∀ x : Int, (if (0 : Int) ≤ x then W k x else 0) = W k x := fun x => by
    by_cases c : 0 ≤ x
    · rw [if_pos c]
    · rw [if_neg c, W_neg k x (by omega)]
  simp only [T, e, W]
  simp
theorem iways_l2 (N s : Nat) (n : Int) (x9 x10 : Int) (x16 : List Int) (x17 x18 : Int) (hN : s + 10 ≤ N) (hb : N ≤ 1000000) (hn : 0 ≤ n) (hn2 : n ≤ 100000000000000) (r : List Int) :
    ∀ (e d : Nat) (g : Nat → Int), d + e = 10 → (∀ i, s + d ≤ i → 0 ≤ g i ∧ g i ≤ 100000000000000) →
      Ev (fun k => impl_ways.l1 k (tab N (fun i => if s + d ≤ i ∧ i < s + 10 then g i + n else g i)) x9 x10 x16 x17 (wrap64 (x18 + 1))) r →
      Ev (fun k => impl_ways.l2 k (tab N g) (s : Int) n x9 x10 x16 x17 x18 (d : Int)) r := by
  intro e
  induction e with
  | zero =>
    intro d g hd hg h
    refine ev_succ ?_
    simp only [impl_ways.l2]
    refine ev_neg (by omega) ?_
    have : (tab N fun i => if s + d ≤ i ∧ i < s + 10 then g i + n else g i) = tab N g := tab_congr (fun i _ => if_neg (by omega))
    rw [this] at h
    exact h
  | succ e ih =>
    intro d g hd hg h
    refine ev_succ ?_
    simp only [impl_ways.l2]
    have hw : wrap64 ((s : Int) + d) = ((s + d : Nat) : Int) := by rw [wrap_of (by omega) (by omega)]; omega
    rw [hw, tab_len, tab_rd (by omega), Int.toNat_natCast, tab_set, wrap_nat (i := d) (by omega)]
    refine ev_pos (by omega) (ev_pos (by omega) (ev_pos (by omega) ?_))
    have hg1 := hg (s + d) (Nat.le_refl _)
    rw [wrap_of (x := g (s + d) + n) (by omega) (by omega)]
    refine ih (d + 1) (fun i => if i = s + d then g (s + d) + n else g i) (by omega) (fun i hi => ?_) ?_
    · rw [if_neg (by omega)]; exact hg i (by omega)
    · have : (tab N fun i => if s + (d + 1) ≤ i ∧ i < s + 10 then (if i = s + d then g (s + d) + n else g i) + n else (if i = s + d then g (s + d) + n else g i)) = tab N fun i => if s + d ≤ i ∧ i < s + 10 then g i + n else g i := by
        refine tab_congr (fun i _ => ?_)
        by_cases c : i = s + d
        · subst c
          rw [if_neg (by omega), if_pos rfl, if_pos (by omega)]
        · rw [if_neg c]
          by_cases c2 : s + d ≤ i ∧ i < s + 10
          · rw [if_pos (by omega), if_pos c2]
          · rw [if_neg (by omega), if_neg c2]
      rw [this]
      exact h
theorem iways_l1 (q : Nat) (hq : q ≤ 13) (x9 x10 : Int) (r : List Int) (h : Ev (fun k => impl_ways.l0 k (wl (q + 1)) x9 (wrap64 (x10 + 1))) r) :
    ∀ (e s : Nat) (g : Nat → Int), s + e = 9 * q + 1 → (∀ i, 0 ≤ g i ∧ g i + T q s i 10 = W (q + 1) i) →
      Ev (fun k => impl_ways.l1 k (tab (9 * q + 10) g) x9 x10 (wl q) ((9 * q + 1 : Nat) : Int) (s : Int)) r := by
  have hW : ∀ i, W (q + 1) i ≤ 100000000000000 := fun i => by
    have h1 := W_le (q + 1) i
    have h2 : (10 : Int) ^ (q + 1) ≤ 10 ^ 14 := p10_le (by omega)
    omega
  intro e
  induction e with
  | zero =>
    intro s g hs hg
    refine ev_succ ?_
    simp only [impl_ways.l1]
    refine ev_neg (by omega) ?_
    have : tab (9 * q + 10) g = wl (q + 1) := by
      unfold wl
      rw [show 9 * (q + 1) + 1 = 9 * q + 10 by omega]
      refine tab_congr (fun i _ => ?_)
      have := (hg i).2
      rw [T_end q s i 10 (by omega)] at this
      omega
    rw [this]
    exact h
  | succ e ih =>
    intro s g hs hg
    refine ev_succ ?_
    simp only [impl_ways.l1]
    have hl : (wl q).length = 9 * q + 1 := tab_len _ _
    have hr : rd (wl q) (s : Int) = W q s := tab_rd (by omega)
    rw [hl, hr]
    refine ev_pos (by omega) (ev_pos (by omega) (ev_pos (by omega) ?_))
    have hn := W_nonneg q s
    have hn2 : W q s ≤ 100000000000000 := by
      have h1 := W_le q s
      have h2 : (10 : Int) ^ q ≤ 10 ^ 14 := p10_le (by omega)
      omega
    have hT : ∀ i : Nat, 0 ≤ T q s i 10 := fun i => T_nonneg q s i 10
    have key := iways_l2 (9 * q + 10) s (W q s) x9 x10 (wl q) ((9 * q + 1 : Nat) : Int) (s : Int) (by omega) (by omega) hn hn2 r 10 0 g (by omega) (fun i _ => ⟨(hg i).1, by have := (hg i).2; have := hT i; have := hW i; omega⟩)
    refine key ?_
    have hw : wrap64 ((s : Int) + 1) = ((s + 1 : Nat) : Int) := wrap_nat (by omega)
    rw [hw]
    refine ih (s + 1) _ (by omega) (fun i => ?_)
    have h1 := hg i
    have h2 := T_step q s i 10
    have h3 : ((s + 1 : Nat) : Int) = (s : Int) + 1 := by omega
    rw [h3]
    by_cases c : s + 0 ≤ i ∧ i < s + 10
    · rw [if_pos c]
      rw [if_pos (by omega)] at h2
      omega
    · rw [if_neg c]
      rw [if_neg (by omega)] at h2
      omega
theorem iways_l0 (p : Nat) (hp : p ≤ 13) : ∀ (e j : Nat), j + e = p → Ev (fun k => impl_ways.l0 k (wl j) (p : Int) (j : Int)) (wl p) := by
  intro e
  induction e with
  | zero =>
    intro j hj
    refine ev_succ ?_
    simp only [impl_ways.l0]
    have : j = p := by omega
    subst this
    exact ev_neg (by omega) (ev_eq fun _ => rfl)
  | succ e ih =>
    intro j hj
    refine ev_succ ?_
    simp only [impl_ways.l0]
    have hl : (wl j).length = 9 * j + 1 := tab_len _ _
    have hw : wrap64 (((9 * j + 1 : Nat) : Int) + 9) = ((9 * j + 10 : Nat) : Int) := by rw [wrap_of (by omega) (by omega)]; omega
    rw [hl, hw, Int.toNat_natCast, tab_zero]
    refine ev_pos (by omega) (ev_pos (by omega) (ev_pos (by omega) ?_))
    refine iways_l1 j (by omega) (p : Int) (j : Int) (wl p) ?_ (9 * j + 1) 0 (fun _ => 0) (by omega) (fun i => ⟨Int.le_refl 0, ?_⟩)
    · rw [wrap_nat (i := j) (by omega)]
      exact ih (j + 1) (by omega)
    · have := T_all j i
      simp only [Int.zero_add]
      exact this
theorem iways_ev (p : Nat) (hp : p ≤ 13) : Ev (fun k => impl_ways.f k (p : Int)) (wl p) := by
  unfold impl_ways.f
  exact iways_l0 p hp p 0 (by omega)


/-! ### the program's own: at, sumOf, digitSum, padded -/
theorem at_wl (q : Nat) (hq : q ≤ 13) (s : Int) : impl_at.f (wl q) s = some (W q s) := by
  unfold impl_at.f
  have hl : (wl q).length = 9 * q + 1 := tab_len _ _
  rw [hl, wrap_of (by omega) (by omega), within_eq, Option.bind_some]
  by_cases h : 0 ≤ s ∧ s ≤ ((9 * q + 1 : Nat) : Int) - 1
  · rw [if_pos (by simpa using h), if_pos h.1, if_pos (by omega)]
    obtain ⟨j, rfl⟩ : ∃ j : Nat, s = (j : Int) := ⟨s.toNat, by omega⟩
    congr 1
    exact tab_rd (by omega)
  · rw [if_neg (by simpa using h)]
    congr 1
    by_cases c : s < 0
    · exact (W_neg q s c).symm
    · exact (W_big q s (by omega)).symm
theorem isumOf_loop (t : ByteArray) (hs : t.size ≤ 1099511627776) : ∀ (d i : Nat) (x : Int), i + d = t.size → 0 ≤ x → x ≤ 255 * i →
    Ev (fun k => impl_sumOf.l0 k t x (t.size : Int) (i : Int)) (x + lsum (t.data.toList.drop i)) := by
  intro d
  induction d with
  | zero =>
    intro i x hi _ _
    refine ev_succ ?_
    simp only [impl_sumOf.l0]
    rw [List.drop_eq_nil_of_le (by rw [size_len]; omega)]
    exact ev_neg (by omega) (ev_eq fun _ => by simp [lsum])
  | succ d ih =>
    intro i x hi h0 h1
    refine ev_succ ?_
    simp only [impl_sumOf.l0]
    have hlt : i < t.data.toList.length := by rw [size_len]; omega
    rw [bt_get t i hlt, List.drop_eq_getElem_cons hlt, wrap_nat (by omega)]
    have hd := dv_range (t.data.toList[i])
    have e1 : ((t.data.toList[i].toNat : Int) - 48) % 256 = dv (t.data.toList[i]) := rfl
    rw [e1, wrap_of (by omega) (by omega)]
    refine ev_pos (by omega) (ev_pos (by omega) (ev_pos (by omega) ?_))
    simp only [lsum]
    rw [← Int.add_assoc]
    exact ih (i + 1) _ (by omega) (by omega) (by omega)
theorem isumOf_ev (t : ByteArray) (hs : t.size ≤ 1099511627776) : Ev (fun k => impl_sumOf.f k t) (lsum t.data.toList) := by
  have h := isumOf_loop t hs t.size 0 0 (by omega) (Int.le_refl 0) (by omega)
  simp only [List.drop_zero, Int.zero_add] at h
  exact h
theorem itoa_nat (n : Nat) (h : n ≤ 9223372036854775807) : strconv_Itoa.f (n : Int) = some ⟨(Lib.decDigits n).toArray⟩ := by
  unfold strconv_Itoa.f
  rw [if_pos (by omega), if_pos (by omega), Lib.itoa_nonneg]
theorem nDigits_le (n : Nat) : ∀ k, 0 < k → n < 10 ^ k → Lib.nDigits n ≤ k := by
  induction n using Nat.strongRecOn with
  | _ n ih =>
    intro k hk h
    by_cases c : n < 10
    · rw [Lib.nDigits_small c]; exact hk
    · rw [Lib.nDigits_big c]
      obtain ⟨k, rfl⟩ : ∃ j, k = j + 1 := ⟨k - 1, by omega⟩
      have hk1 : 0 < k := by
        rcases Nat.eq_zero_or_pos k with e | e
        · subst e; simp at h; omega
        · exact e
      have := ih (n / 10) (by omega) k hk1 (by rw [Nat.pow_succ] at h; omega)
      omega
theorem dec_sum (n : Nat) : lsum (Lib.decDigits n) = ds n := by rw [dec_pad]; exact lsum_pad _ n (Lib.lt_pow_nDigits n)
theorem idigitSum_ev (n : Nat) (h : n ≤ 9223372036854775807) : Ev (fun k => impl_digitSum.f k (n : Int)) (ds n) := by
  unfold impl_digitSum.f
  refine ev_bind (itoa_nat n h) ?_
  have hs : (⟨(Lib.decDigits n).toArray⟩ : ByteArray).size ≤ 1099511627776 := by
    rw [mk_size, Lib.decDigits_length]
    have := nDigits_le n 19 (by omega) (by omega)
    omega
  have he := isumOf_ev _ hs
  rw [list_of, dec_sum] at he
  exact Ev.bind he (ev_eq fun _ => rfl)
theorem repeatL_one (c : Nat) : Lib.repeatL [48] c = List.replicate c (48 : UInt8) := by
  induction c with
  | zero => rfl
  | succ c ih => simp [Lib.repeatL, ih, List.replicate_succ]
theorem ipadded_ev (n p : Nat) (hp : 0 < p) (h : n < 10 ^ p) (hp2 : p ≤ 18) : Ev (fun _ => impl_padded.f (n : Int) (p : Int)) ⟨(pad p n).toArray⟩ := by
  refine ev_eq fun _ => ?_
  unfold impl_padded.f
  have hb : n < 10 ^ 18 := Nat.lt_of_lt_of_le h (Nat.pow_le_pow_right (by omega) hp2)
  have hd := nDigits_le n p hp h
  rw [itoa_nat n (by omega), Option.bind_some, mk_size, Lib.decDigits_length]
  have e1 : wrap64 ((p : Int) - (Lib.nDigits n : Int)) = ((p - Lib.nDigits n : Nat) : Int) := by rw [wrap_of (by omega) (by omega)]; omega
  have e2 : mx 0 ((p - Lib.nDigits n : Nat) : Int) = ((p - Lib.nDigits n : Nat) : Int) := by unfold mx; omega
  rw [e1, e2]
  unfold strings_Repeat.f
  have h48 : (⟨#[48]⟩ : ByteArray).size = 1 := rfl
  have hl48 : (⟨#[48]⟩ : ByteArray).data.toList = [48] := rfl
  rw [if_pos (by omega), if_pos (by omega), Int.toNat_natCast, h48, if_pos (by omega), hl48, repeatL_one]
  simp only [Option.bind_some]
  rw [mk_size, List.length_replicate, if_pos (by omega), mk_append]
  congr 3
  rw [dec_pad, ← pad_front _ _ _ (Lib.lt_pow_nDigits n), Nat.sub_add_cancel hd]

/-! ### below, ofSum: counted by cnt -/
theorem cnt_full (p : Nat) (s : Int) : cnt s (10 ^ p) = W p s := by
  have h := cnt_block p s 0
  rw [Nat.mul_zero, Nat.zero_add, Nat.mul_one, ds_small (by omega)] at h
  simp only [cnt] at h
  have : s - ((0 : Nat) : Int) = s := by omega
  rw [this] at h; omega
theorem pdiv (n i : Nat) (hi : i < 13) : n / 10 ^ (13 - (i + 1)) = 10 * (n / 10 ^ (13 - i)) + n / 10 ^ (12 - i) % 10 := by
  rw [show 13 - i = (12 - i) + 1 by omega, show 13 - (i + 1) = 12 - i by omega, Nat.pow_succ, ← Nat.div_div_eq_div_mul]
  omega
theorem ibelow_l1 (n : Nat) (hn : n < 10 ^ 13) (s : Int) (hs0 : 0 ≤ s) (hs : s ≤ 1000) (i : Nat) (hi : i < 13) (r : Int)
    (h : Ev (fun k => impl_below.l0 k s ⟨(pad 13 n).toArray⟩ (cnt s (10 ^ (13 - (i + 1)) * (n / 10 ^ (13 - (i + 1))))) 13 (((i + 1 : Nat)) : Int)) r) :
    ∀ (e d : Nat), d + e = n / 10 ^ (12 - i) % 10 →
      Ev (fun k => impl_below.l1 k s ⟨(pad 13 n).toArray⟩ (cnt s (10 ^ (12 - i) * (10 * (n / 10 ^ (13 - i)) + d))) (i : Int) (wl (12 - i)) (48 + (d : Int)) 13 (i : Int)) r := by
  have hsz : (⟨(pad 13 n).toArray⟩ : ByteArray).size = 13 := by rw [mk_size, pad_length]
  have hl : (⟨(pad 13 n).toArray⟩ : ByteArray).data.toList = pad 13 n := list_of _
  have hlt : i < (⟨(pad 13 n).toArray⟩ : ByteArray).data.toList.length := by rw [hl, pad_length]; exact hi
  have ht : n / 10 ^ (12 - i) % 10 < 10 := Nat.mod_lt _ (by omega)
  have hbt : bt ⟨(pad 13 n).toArray⟩ (i : Int) = 48 + ((n / 10 ^ (12 - i) % 10 : Nat) : Int) := by
    rw [bt_get _ i hlt]
    have : (⟨(pad 13 n).toArray⟩ : ByteArray).data.toList[i] = dch (n / 10 ^ (12 - i) % 10) := by
      simp only [hl]
      exact pad_get 13 n i (by rw [pad_length]; exact hi)
    rw [this, dch_nat ht]; omega
  have hpre : (((⟨(pad 13 n).toArray⟩ : ByteArray).extract 0 i).data.toList) = pad i (n / 10 ^ (13 - i)) := by
    rw [take_list _ i (by omega), hl]
    have := pad_take i (13 - i) n
    rw [show i + (13 - i) = 13 by omega] at this
    exact this
  have hq : n / 10 ^ (13 - i) < 10 ^ i := by
    rw [Nat.div_lt_iff_lt_mul (pow10_pos _), ← Nat.pow_add, show i + (13 - i) = 13 by omega]; exact hn
  have hsum : Ev (fun k => impl_sumOf.f k ((⟨(pad 13 n).toArray⟩ : ByteArray).extract 0 i)) (ds (n / 10 ^ (13 - i))) := by
    have he := isumOf_ev ((⟨(pad 13 n).toArray⟩ : ByteArray).extract 0 i) (by rw [← size_len, hpre, pad_length]; omega)
    rw [hpre, lsum_pad i _ hq] at he
    exact he
  have hds0 := ds_nonneg (n / 10 ^ (13 - i))
  have hds1 := ds_le i _ hq
  intro e
  induction e with
  | zero =>
    intro d hd
    refine ev_succ ?_
    simp only [impl_below.l1]
    rw [hsz, hbt]
    refine ev_pos (by omega) (ev_pos (by omega) (ev_neg (by omega) ?_))
    have e1 : (10 : Nat) ^ (12 - i) * (10 * (n / 10 ^ (13 - i)) + d) = 10 ^ (13 - (i + 1)) * (n / 10 ^ (13 - (i + 1))) := by
      rw [pdiv n i hi, show 13 - (i + 1) = 12 - i by omega, show d = n / 10 ^ (12 - i) % 10 by omega]
    rw [e1, wrap_nat (by omega)]
    exact h
  | succ e ih =>
    intro d hd
    refine ev_succ ?_
    simp only [impl_below.l1]
    rw [hsz, hbt]
    refine ev_pos (by omega) (ev_pos (by omega) (ev_pos (by omega) (ev_pos (by omega) ?_)))
    rw [Int.toNat_natCast]
    refine Ev.bind hsum ?_
    have e2 : ((48 + (d : Int)) - 48) % 256 = d := by omega
    have e3 : wrap64 (wrap64 (s - ds (n / 10 ^ (13 - i))) - d) = s - ds (n / 10 ^ (13 - i)) - d := by
      rw [wrap_of (x := s - ds (n / 10 ^ (13 - i))) (by omega) (by omega), wrap_of (by omega) (by omega)]
    rw [e2, e3]
    refine ev_bind (at_wl (12 - i) (by omega) _) ?_
    have hb := cnt_block (12 - i) s (10 * (n / 10 ^ (13 - i)) + d)
    rw [ds_cons _ d (by omega)] at hb
    have e4 : s - (ds (n / 10 ^ (13 - i)) + (d : Int)) = s - ds (n / 10 ^ (13 - i)) - d := by omega
    rw [e4] at hb
    have hc0 := cnt_nonneg s (10 ^ (12 - i) * (10 * (n / 10 ^ (13 - i)) + d))
    have hle : 10 ^ (12 - i) * (10 * (n / 10 ^ (13 - i)) + d + 1) ≤ 10 ^ 13 := by
      have h1 : 10 * (n / 10 ^ (13 - i)) + d + 1 ≤ 10 ^ (i + 1) := by rw [Nat.pow_succ]; omega
      have h2 := Nat.mul_le_mul_left (10 ^ (12 - i)) h1
      rw [← Nat.pow_add, show 12 - i + (i + 1) = 13 by omega] at h2
      exact h2
    have hc1 := cnt_le s (10 ^ (12 - i) * (10 * (n / 10 ^ (13 - i)) + d + 1))
    have e5 : wrap64 (cnt s (10 ^ (12 - i) * (10 * (n / 10 ^ (13 - i)) + d)) + W (12 - i) (s - ds (n / 10 ^ (13 - i)) - d)) = cnt s (10 ^ (12 - i) * (10 * (n / 10 ^ (13 - i)) + (d + 1))) := by
      rw [← hb, ← Nat.add_assoc]
      refine wrap_of ?_ ?_
      · rw [hb]; have := W_nonneg (12 - i) (s - ds (n / 10 ^ (13 - i)) - d); omega
      · omega
    rw [e5]
    have e6 : (48 + (d : Int) + 1) % 256 = 48 + ((d + 1 : Nat) : Int) := by omega
    rw [e6]
    exact ih (d + 1) (by omega)
theorem ibelow_l0 (n : Nat) (hn : n < 10 ^ 13) (s : Int) (hs0 : 0 ≤ s) (hs : s ≤ 1000) : ∀ (e i : Nat), i + e = 13 →
    Ev (fun k => impl_below.l0 k s ⟨(pad 13 n).toArray⟩ (cnt s (10 ^ (13 - i) * (n / 10 ^ (13 - i)))) 13 (i : Int)) (cnt s n) := by
  intro e
  induction e with
  | zero =>
    intro i hi
    refine ev_succ ?_
    simp only [impl_below.l0]
    have : i = 13 := by omega
    subst this
    exact ev_neg (by omega) (ev_eq fun _ => by simp)
  | succ e ih =>
    intro i hi
    refine ev_succ ?_
    simp only [impl_below.l0]
    refine ev_pos (by omega) ?_
    have e1 : wrap64 (12 - (i : Int)) = ((12 - i : Nat) : Int) := by rw [wrap_of (by omega) (by omega)]; omega
    rw [e1]
    refine Ev.bind (iways_ev (12 - i) (by omega)) ?_
    have h := ibelow_l1 n hn s hs0 hs i (by omega) (cnt s n) (ih (i + 1) (by omega)) (n / 10 ^ (12 - i) % 10) 0 (by omega)
    have e2 : (10 : Nat) ^ (12 - i) * (10 * (n / 10 ^ (13 - i)) + 0) = 10 ^ (13 - i) * (n / 10 ^ (13 - i)) := by
      rw [Nat.add_zero, ← Nat.mul_assoc, ← Nat.pow_succ, show (12 - i).succ = 13 - i by omega]
    rw [e2] at h
    exact h
theorem ibelow_ev (n : Nat) (hn : n < 10 ^ 13) (s : Int) (hs0 : 0 ≤ s) (hs : s ≤ 1000) : Ev (fun k => impl_below.f k (n : Int) s) (cnt s n) := by
  unfold impl_below.f
  refine Ev.bind (ipadded_ev n 13 (by omega) hn (by omega)) ?_
  rw [show ((⟨(pad 13 n).toArray⟩ : ByteArray).size : Int) = 13 by rw [mk_size, pad_length]; rfl]
  have h := ibelow_l0 n hn s hs0 hs 13 0 (by omega)
  have e : n / 10 ^ (13 - 0) = 0 := Nat.div_eq_of_lt hn
  rw [e, Nat.mul_zero] at h
  exact h
theorem div_lt10 (m i : Nat) (hm : m < 10 ^ 13) (hi : i ≤ 13) : m / 10 ^ (13 - i) < 10 ^ i := by
  rw [Nat.div_lt_iff_lt_mul (pow10_pos _), ← Nat.pow_add, show i + (13 - i) = 13 by omega]; exact hm
theorem iofSum_l1 (m : Nat) (hm : m < 10 ^ 13) (i : Nat) (hi : i < 13) (r : Int × Bool)
    (h : Ev (fun k => impl_ofSum.l0 k (ds m - ds (m / 10 ^ (12 - i))) (cnt (ds m) m - cnt (ds m) (10 ^ (12 - i) * (m / 10 ^ (12 - i)))) ((m / 10 ^ (12 - i) : Nat) : Int) ((i + 1 : Nat) : Int)) r) :
    ∀ (e d : Nat), d + e = m / 10 ^ (12 - i) % 10 →
      Ev (fun k => impl_ofSum.l1 k (ds m - ds (m / 10 ^ (13 - i))) (cnt (ds m) m - cnt (ds m) (10 ^ (12 - i) * (10 * (m / 10 ^ (13 - i)) + d))) ((m / 10 ^ (13 - i) : Nat) : Int) (wl (12 - i)) (i : Int) (d : Int)) r := by
  have ht : m / 10 ^ (12 - i) % 10 < 10 := Nat.mod_lt _ (by omega)
  have hq := div_lt10 m i hm (by omega)
  have hds0 := ds_nonneg (m / 10 ^ (13 - i))
  have hds1 := ds_le i _ hq
  have hm0 := ds_nonneg m
  have hm1 := ds_le 13 m hm
  have hqq : m / 10 ^ (13 - i) ≤ 10000000000000 := by have := Nat.div_le_self m (10 ^ (13 - i)); omega
  have hpd := pdiv m i hi
  have hcm := cnt_le (ds m) m
  have hcm0 := cnt_nonneg (ds m) m
  have hdiv : m / 10 ^ (12 - i) = 10 * (m / 10 ^ (13 - i)) + m / 10 ^ (12 - i) % 10 := by rw [← hpd, show 13 - (i + 1) = 12 - i by omega]
  intro e
  induction e with
  | zero =>
    intro d hd
    refine ev_succ ?_
    simp only [impl_ofSum.l1]
    refine ev_pos (by omega) ?_
    have e3 : wrap64 (ds m - ds (m / 10 ^ (13 - i)) - d) = ds m - ds (m / 10 ^ (13 - i)) - d := wrap_of (by omega) (by omega)
    rw [e3]
    refine ev_bind (at_wl (12 - i) (by omega) _) ?_
    have hb := cnt_block (12 - i) (ds m) (10 * (m / 10 ^ (13 - i)) + d)
    rw [ds_cons _ d (by omega)] at hb
    have e4 : ds m - (ds (m / 10 ^ (13 - i)) + (d : Int)) = ds m - ds (m / 10 ^ (13 - i)) - d := by omega
    rw [e4] at hb
    have hlt : m < 10 ^ (12 - i) * (10 * (m / 10 ^ (13 - i)) + d + 1) := by
      have hd1 : 10 * (m / 10 ^ (13 - i)) + d = m / 10 ^ (12 - i) := by omega
      rw [hd1]
      exact Nat.lt_mul_div_succ m (pow10_pos _)
    have hmono := cnt_mono (ds m) (m := m + 1) hlt
    have hhit : cnt (ds m) (m + 1) = cnt (ds m) m + 1 := cnt_hit rfl
    rw [hhit] at hmono
    refine ev_pos (by omega) ?_
    have hd1 : 10 * (m / 10 ^ (13 - i)) + d = m / 10 ^ (12 - i) := by omega
    have e7 := ds_cons (m / 10 ^ (13 - i)) d (by omega)
    rw [hd1] at e7 ⊢
    have e6 : wrap64 (wrap64 (10 * ((m / 10 ^ (13 - i) : Nat) : Int)) + d) = ((m / 10 ^ (12 - i) : Nat) : Int) := by
      rw [wrap_of (x := 10 * ((m / 10 ^ (13 - i) : Nat) : Int)) (by omega) (by omega), wrap_of (by omega) (by omega)]; omega
    have e8 : ds m - ds (m / 10 ^ (13 - i)) - d = ds m - ds (m / 10 ^ (12 - i)) := by omega
    rw [e6, e8, wrap_nat (i := i) (by omega)]
    exact h
  | succ e ih =>
    intro d hd
    refine ev_succ ?_
    simp only [impl_ofSum.l1]
    refine ev_pos (by omega) ?_
    have e3 : wrap64 (ds m - ds (m / 10 ^ (13 - i)) - d) = ds m - ds (m / 10 ^ (13 - i)) - d := wrap_of (by omega) (by omega)
    rw [e3]
    refine ev_bind (at_wl (12 - i) (by omega) _) ?_
    have hb := cnt_block (12 - i) (ds m) (10 * (m / 10 ^ (13 - i)) + d)
    rw [ds_cons _ d (by omega)] at hb
    have e4 : ds m - (ds (m / 10 ^ (13 - i)) + (d : Int)) = ds m - ds (m / 10 ^ (13 - i)) - d := by omega
    rw [e4] at hb
    have hle : 10 ^ (12 - i) * (10 * (m / 10 ^ (13 - i)) + d + 1) ≤ m := by
      refine Nat.le_trans (Nat.mul_le_mul_left _ (show 10 * (m / 10 ^ (13 - i)) + d + 1 ≤ m / 10 ^ (12 - i) by omega)) (Nat.mul_div_le m _)
    have hmono := cnt_mono (ds m) hle
    have hw0 := W_nonneg (12 - i) (ds m - ds (m / 10 ^ (13 - i)) - d)
    have hc0 := cnt_nonneg (ds m) (10 ^ (12 - i) * (10 * (m / 10 ^ (13 - i)) + d))
    refine ev_neg (by omega) ?_
    have e5 : wrap64 (cnt (ds m) m - cnt (ds m) (10 ^ (12 - i) * (10 * (m / 10 ^ (13 - i)) + d)) - W (12 - i) (ds m - ds (m / 10 ^ (13 - i)) - d)) = cnt (ds m) m - cnt (ds m) (10 ^ (12 - i) * (10 * (m / 10 ^ (13 - i)) + (d + 1))) := by
      rw [wrap_of (by omega) (by omega), ← Nat.add_assoc, hb]; omega
    rw [e5, wrap_nat (by omega)]
    exact ih (d + 1) (by omega)
theorem iofSum_l0 (m : Nat) (hm : m < 10 ^ 13) : ∀ (e i : Nat), i + e = 13 →
    Ev (fun k => impl_ofSum.l0 k (ds m - ds (m / 10 ^ (13 - i))) (cnt (ds m) m - cnt (ds m) (10 ^ (13 - i) * (m / 10 ^ (13 - i)))) ((m / 10 ^ (13 - i) : Nat) : Int) (i : Int)) ((m : Int), decide ((m : Int) ≤ 1000000000000)) := by
  intro e
  induction e with
  | zero =>
    intro i hi
    refine ev_succ ?_
    simp only [impl_ofSum.l0]
    have : i = 13 := by omega
    subst this
    exact ev_neg (by omega) (ev_eq fun _ => by simp)
  | succ e ih =>
    intro i hi
    refine ev_succ ?_
    simp only [impl_ofSum.l0]
    refine ev_pos (by omega) ?_
    have e1 : wrap64 (12 - (i : Int)) = ((12 - i : Nat) : Int) := by rw [wrap_of (by omega) (by omega)]; omega
    rw [e1]
    refine Ev.bind (iways_ev (12 - i) (by omega)) ?_
    have hi2 := ih (i + 1) (by omega)
    have e12 : 13 - (i + 1) = 12 - i := by omega
    rw [e12] at hi2
    have h := iofSum_l1 m hm i (by omega) _ hi2 (m / 10 ^ (12 - i) % 10) 0 (by omega)
    have e2 : (10 : Nat) ^ (12 - i) * (10 * (m / 10 ^ (13 - i)) + 0) = 10 ^ (13 - i) * (m / 10 ^ (13 - i)) := by
      rw [Nat.add_zero, ← Nat.mul_assoc, ← Nat.pow_succ, show (12 - i).succ = 13 - i by omega]
    rw [e2] at h
    exact h
/-- the number with a sum before which just so many lie -/
theorem iofSum_hit (m : Nat) (hm : m < 10 ^ 13) : Ev (fun k => impl_ofSum.f k (ds m) (cnt (ds m) m)) ((m : Int), decide ((m : Int) ≤ 1000000000000)) := by
  unfold impl_ofSum.f
  have h0 := cnt_nonneg (ds m) m
  refine ev_neg (by omega) (Ev.bind (iways_ev 13 (by omega)) (ev_bind (at_wl 13 (by omega) _) ?_))
  have hf := cnt_full 13 (ds m)
  have hmono := cnt_mono (ds m) (m := m + 1) (n := 10 ^ 13) hm
  have hhit : cnt (ds m) (m + 1) = cnt (ds m) m + 1 := cnt_hit rfl
  rw [hhit] at hmono
  rw [decide_eq_false (by omega)]
  refine ev_succ ?_
  simp only [impl_ofSum.j0]
  refine ev_neg (by decide) ?_
  have h := iofSum_l0 m hm 13 0 (by omega)
  have e : m / 10 ^ (13 - 0) = 0 := Nat.div_eq_of_lt hm
  rw [e, Nat.mul_zero, ds_small (n := 0) (by omega)] at h
  simp only [cnt] at h
  have e1 : ds m - ((0 : Nat) : Int) = ds m := by omega
  have e2 : cnt (ds m) m - 0 = cnt (ds m) m := by omega
  rw [e1, e2] at h
  exact h
theorem iofSum_neg (s r : Int) (h : r < 0) : Ev (fun k => impl_ofSum.f k s r) (0, false) := by
  unfold impl_ofSum.f
  refine ev_pos h (ev_succ ?_)
  simp only [impl_ofSum.j0]
  exact ev_pos trivial (ev_eq fun _ => rfl)
theorem iofSum_big (s r : Int) (h0 : 0 ≤ r) (h : W 13 s ≤ r) : Ev (fun k => impl_ofSum.f k s r) (0, false) := by
  unfold impl_ofSum.f
  refine ev_neg (by omega) (Ev.bind (iways_ev 13 (by omega)) (ev_bind (at_wl 13 (by omega) _) ?_))
  rw [decide_eq_true (by omega)]
  refine ev_succ ?_
  simp only [impl_ofSum.j0]
  exact ev_pos trivial (ev_eq fun _ => rfl)

/-! ### the reference's own: leFill, leNear -/
theorem most_eq (a b : Int) : spec_l1Most.f a b = some (max a b) := by
  unfold spec_l1Most.f
  by_cases h : a > b
  · rw [if_pos h]; congr 1; omega
  · rw [if_neg h]; congr 1; omega
theorem least_eq (a b : Int) : spec_l1Least.f a b = some (min a b) := by
  unfold spec_l1Least.f
  by_cases h : a < b
  · rw [if_pos h]; congr 1; omega
  · rw [if_neg h]; congr 1; omega
theorem leFill_lo : ∀ (m s n : Nat), s ≤ 9 * m → (n + 1) * 10 ^ m ≤ 10 ^ 13 → Ev (fun k => spec_leFill.l0 k (s : Int) false (n : Int) ((m : Int) - 1)) ((n * 10 ^ m + fillLo m s : Nat) : Int) := by
  intro m
  induction m with
  | zero =>
    intro s n hs hn
    refine ev_succ ?_
    simp only [spec_leFill.l0]
    exact ev_neg (by omega) (ev_eq fun _ => by simp [fillLo])
  | succ m ih =>
    intro s n hs hn
    refine ev_succ ?_
    simp only [spec_leFill.l0]
    have hp := pow10_pos m
    have hn1 : n + 1 ≤ 10 ^ 13 := Nat.le_trans (Nat.le_mul_of_pos_right _ (pow10_pos _)) hn
    have hm : m < 13 := by
      rcases Nat.lt_or_ge m 13 with c | c
      · exact c
      · exfalso
        have : (10 : Nat) ^ 14 ≤ 10 ^ (m + 1) := Nat.pow_le_pow_right (by omega) (by omega)
        have : 1 * 10 ^ (m + 1) ≤ (n + 1) * 10 ^ (m + 1) := Nat.mul_le_mul_right _ (by omega)
        omega
    refine ev_pos (by omega) (ev_bind (most_eq _ _) (ev_neg (by decide) ?_))
    have e1 : max 0 (wrap64 ((s : Int) - wrap64 (9 * (((m + 1 : Nat) : Int) - 1)))) = ((s - 9 * m : Nat) : Int) := by
      rw [wrap_of (x := 9 * (((m + 1 : Nat) : Int) - 1)) (by omega) (by omega), wrap_of (by omega) (by omega)]; omega
    rw [e1]
    have hd : s - 9 * m < 10 := by omega
    have e2 : wrap64 ((s : Int) - ((s - 9 * m : Nat) : Int)) = ((s - (s - 9 * m) : Nat) : Int) := by rw [wrap_of (by omega) (by omega)]; omega
    have e3 : wrap64 (wrap64 (10 * (n : Int)) + ((s - 9 * m : Nat) : Int)) = ((10 * n + (s - 9 * m) : Nat) : Int) := by
      rw [wrap_of (x := 10 * (n : Int)) (by omega) (by omega), wrap_of (by omega) (by omega)]; omega
    have e4 : wrap64 (((m + 1 : Nat) : Int) - 1 - 1) = (m : Int) - 1 := by rw [wrap_of (by omega) (by omega)]; omega
    rw [e2, e3, e4]
    have h := ih (s - (s - 9 * m)) (10 * n + (s - 9 * m)) (by omega) (by
      refine Nat.le_trans (Nat.mul_le_mul_right _ (show 10 * n + (s - 9 * m) + 1 ≤ (n + 1) * 10 by omega)) ?_
      rw [Nat.mul_assoc, Nat.mul_comm 10, ← Nat.pow_succ]; exact hn)
    have e5 : (10 * n + (s - 9 * m)) * 10 ^ m + fillLo m (s - (s - 9 * m)) = n * 10 ^ (m + 1) + fillLo (m + 1) s := by
      simp only [fillLo]
      rw [Nat.add_mul, Nat.pow_succ, Nat.mul_comm 10 n, Nat.mul_assoc, Nat.mul_comm 10 (10 ^ m)]; omega
    rw [e5] at h
    exact h
theorem leFill_hi : ∀ (m s n : Nat), s ≤ 9 * m → (n + 1) * 10 ^ m ≤ 10 ^ 13 → Ev (fun k => spec_leFill.l0 k (s : Int) true (n : Int) ((m : Int) - 1)) ((n * 10 ^ m + fillHi m s : Nat) : Int) := by
  intro m
  induction m with
  | zero =>
    intro s n hs hn
    refine ev_succ ?_
    simp only [spec_leFill.l0]
    exact ev_neg (by omega) (ev_eq fun _ => by simp [fillHi])
  | succ m ih =>
    intro s n hs hn
    refine ev_succ ?_
    simp only [spec_leFill.l0]
    have hp := pow10_pos m
    have hn1 : n + 1 ≤ 10 ^ 13 := Nat.le_trans (Nat.le_mul_of_pos_right _ (pow10_pos _)) hn
    have hm : m < 13 := by
      rcases Nat.lt_or_ge m 13 with c | c
      · exact c
      · exfalso
        have : (10 : Nat) ^ 14 ≤ 10 ^ (m + 1) := Nat.pow_le_pow_right (by omega) (by omega)
        have : 1 * 10 ^ (m + 1) ≤ (n + 1) * 10 ^ (m + 1) := Nat.mul_le_mul_right _ (by omega)
        omega
    refine ev_pos (by omega) (ev_bind (most_eq _ _) (ev_pos trivial (ev_bind (least_eq _ _) ?_)))
    have e1 : min 9 (s : Int) = ((min 9 s : Nat) : Int) := by omega
    rw [e1]
    have e2 : wrap64 ((s : Int) - ((min 9 s : Nat) : Int)) = ((s - min 9 s : Nat) : Int) := by rw [wrap_of (by omega) (by omega)]; omega
    have e3 : wrap64 (wrap64 (10 * (n : Int)) + ((min 9 s : Nat) : Int)) = ((10 * n + min 9 s : Nat) : Int) := by
      rw [wrap_of (x := 10 * (n : Int)) (by omega) (by omega), wrap_of (by omega) (by omega)]; omega
    have e4 : wrap64 (((m + 1 : Nat) : Int) - 1 - 1) = (m : Int) - 1 := by rw [wrap_of (by omega) (by omega)]; omega
    rw [e2, e3, e4]
    have h := ih (s - min 9 s) (10 * n + min 9 s) (by omega) (by
      refine Nat.le_trans (Nat.mul_le_mul_right _ (show 10 * n + min 9 s + 1 ≤ (n + 1) * 10 by omega)) ?_
      rw [Nat.mul_assoc, Nat.mul_comm 10, ← Nat.pow_succ]; exact hn)
    have e5 : (10 * n + min 9 s) * 10 ^ m + fillHi m (s - min 9 s) = n * 10 ^ (m + 1) + fillHi (m + 1) s := by
      simp only [fillHi]
      rw [Nat.add_mul, Nat.pow_succ, Nat.mul_comm 10 n, Nat.mul_assoc, Nat.mul_comm 10 (10 ^ m)]; omega
    rw [e5] at h
    exact h
theorem leFillLo_ev (p s : Nat) (hp : p ≤ 12) (hs : s ≤ 9 * p) : Ev (fun k => spec_leFill.f k (p : Int) (s : Int) false) ((fillLo p s : Nat) : Int) := by
  unfold spec_leFill.f
  have h := leFill_lo p s 0 hs (by rw [Nat.zero_add, Nat.one_mul]; exact Nat.pow_le_pow_right (by omega) (by omega))
  rw [wrap_of (by omega) (by omega)]
  simpa using h
theorem leFillHi_ev (p s : Nat) (hp : p ≤ 12) (hs : s ≤ 9 * p) : Ev (fun k => spec_leFill.f k (p : Int) (s : Int) true) ((fillHi p s : Nat) : Int) := by
  unfold spec_leFill.f
  have h := leFill_hi p s 0 hs (by rw [Nat.zero_add, Nat.one_mul]; exact Nat.pow_le_pow_right (by omega) (by omega))
  rw [wrap_of (by omega) (by omega)]
  simpa using h
theorem ds_mod_succ (n p : Nat) : ds (n % 10 ^ (p + 1)) = ds (n % 10 ^ p) + ((n / 10 ^ p % 10 : Nat) : Int) := by
  rw [Nat.pow_succ, Nat.mod_mul, Nat.add_comm, Nat.mul_comm (10 ^ p), ds_join p _ _ (Nat.mod_lt _ (pow10_pos p)), ds_small (Nat.mod_lt _ (by omega))]; omega
theorem wrap_nn {x : Nat} (h : x ≤ 9223372036854775807) : wrap64 (x : Int) = x := wrap_of (by omega) (by omega)
theorem tdiv_nat (a b : Nat) : Int.tdiv (a : Int) (b : Int) = ((a / b : Nat) : Int) := by
  rw [Int.tdiv_eq_ediv_of_nonneg (by omega)]; rfl
theorem tmod_nat (a b : Nat) : Int.tmod (a : Int) (b : Int) = ((a % b : Nat) : Int) := by
  rw [Int.tmod_eq_emod_of_nonneg (by omega)]; rfl
theorem near_up (q b f : Nat) (hq : q ≤ 10 ^ 12) (h : (q + 1) * b + f < 10 ^ 13) : wrap64 (wrap64 (wrap64 (wrap64 (q : Int) + 1) * (b : Int)) + (f : Int)) = (((q + 1) * b + f : Nat) : Int) := by
  have h1 : (q : Int) + 1 = ((q + 1 : Nat) : Int) := by omega
  have h2 := wrap_nn (x := q) (by omega)
  have h3 := wrap_nn (x := q + 1) (by omega)
  rw [h2, h1, h3, ← Int.natCast_mul]
  generalize (q + 1) * b = x at *
  rw [wrap_nn (x := x) (by omega), ← Int.natCast_add]
  exact wrap_nn (by omega)
theorem near_dn (q b f : Nat) (hq : q ≤ 10 ^ 12) (hq1 : 1 ≤ q) (h : (q - 1) * b + f < 10 ^ 13) : wrap64 (wrap64 (wrap64 (wrap64 (q : Int) - 1) * (b : Int)) + (f : Int)) = (((q - 1) * b + f : Nat) : Int) := by
  have h1 : (q : Int) - 1 = ((q - 1 : Nat) : Int) := by omega
  have h2 := wrap_nn (x := q) (by omega)
  have h3 := wrap_nn (x := q - 1) (by omega)
  rw [h2, h1, h3, ← Int.natCast_mul]
  generalize (q - 1) * b = x at *
  rw [wrap_nn (x := x) (by omega), ← Int.natCast_add]
  exact wrap_nn (by omega)
/-- what leNear answers -/
def NextOut (n : Nat) (o : Int × Bool) : Prop := (o = (0, false) ∧ ∀ y, n < y → y < 10 ^ 13 → ds y ≠ ds n) ∨ ∃ r : Nat, o = ((r : Int), true) ∧ n < r ∧ r < 10 ^ 13 ∧ ds r = ds n ∧ ∀ x, n < x → x < r → ds x ≠ ds n
def LastOut (n : Nat) (o : Int × Bool) : Prop := (o = (0, false) ∧ ∀ y, y < n → ds y ≠ ds n) ∨ ∃ r : Nat, o = ((r : Int), true) ∧ r < n ∧ ds r = ds n ∧ ∀ x, r < x → x < n → ds x ≠ ds n
theorem digit_eq (n p : Nat) (hn : n ≤ 10 ^ 12) : Int.tmod (wrap64 (Int.tdiv (n : Int) ((10 ^ p : Nat) : Int))) 10 = ((n / 10 ^ p % 10 : Nat) : Int) := by
  have := Nat.div_le_self n (10 ^ p)
  rw [tdiv_nat, wrap_nn (by omega)]
  exact tmod_nat _ 10
theorem leNear_next (n : Nat) (hn : n ≤ 10 ^ 12) : ∀ (e p : Nat), p + e = 13 → (∀ j, j < p → n / 10 ^ j % 10 = 9 ∨ ds (n % 10 ^ j) = 0) →
    ∃ o, Ev (fun k => spec_leNear.l0 k (n : Int) true (ds (n % 10 ^ p)) ((10 ^ p : Nat) : Int) (p : Int)) o ∧ NextOut n o := by
  intro e
  induction e with
  | zero =>
    intro p hp hf
    have : p = 13 := by omega
    subst this
    refine ⟨(0, false), ?_, .inl ⟨rfl, fun y h1 h2 => ?_⟩⟩
    · refine ev_succ ?_
      simp only [spec_leNear.l0]
      exact ev_neg (by omega) (ev_eq fun _ => rfl)
    · have h := no_next n 13 hf y
      rw [Nat.mod_eq_of_lt (show n < 10 ^ 13 by omega)] at h
      exact h h1 h2
  | succ e ih =>
    intro p hp hf
    have hp12 : p ≤ 12 := by omega
    have hpp := pow10_pos p
    have hple : (10 : Nat) ^ p ≤ 10 ^ 12 := Nat.pow_le_pow_right (by omega) hp12
    have hd10 : n / 10 ^ p % 10 < 10 := Nat.mod_lt _ (by omega)
    have hr0 := ds_nonneg (n % 10 ^ p)
    have hr1 := ds_le p (n % 10 ^ p) (Nat.mod_lt _ hpp)
    have hdl := Nat.div_le_self n (10 ^ p)
    by_cases c : n / 10 ^ p % 10 < 9 ∧ 0 < ds (n % 10 ^ p)
    · obtain ⟨s, hs⟩ : ∃ s : Nat, ds (n % 10 ^ p) = (s : Int) + 1 := ⟨(ds (n % 10 ^ p) - 1).toNat, by omega⟩
      obtain ⟨g1, g2, g3, g4⟩ := next_spec n p s hs c.1 hf
      have hbig : (n / 10 ^ p + 1) * 10 ^ p + fillLo p s < 10 ^ 13 := by
        have h1 : (n / 10 ^ p + 1) * 10 ^ p ≤ 2 * 10 ^ 12 := by
          rw [Nat.add_mul]; have := Nat.div_mul_le_self n (10 ^ p); omega
        omega
      refine ⟨((((n / 10 ^ p + 1) * 10 ^ p + fillLo p s : Nat) : Int), true), ?_, .inr ⟨_, rfl, g1, hbig, g2, g3⟩⟩
      have hrr := near_up (n / 10 ^ p) (10 ^ p) (fillLo p s) (Nat.le_trans hdl hn) hbig
      clear g1 g2 g3 g4 hbig hf
      refine ev_succ ?_
      simp only [spec_leNear.l0]
      rw [digit_eq n p hn]
      refine ev_pos (by omega) (ev_neg (by omega) (ev_pos trivial (ev_pos (by omega) ?_)))
      rw [decide_eq_true (by omega)]
      refine ev_succ ?_
      simp only [spec_leNear.j1]
      refine ev_pos trivial (ev_neg (by omega) ?_)
      have e1 : wrap64 (ds (n % 10 ^ p) - 1) = (s : Int) := by rw [wrap_of (by omega) (by omega)]; omega
      rw [e1]
      refine Ev.bind (leFillLo_ev p s hp12 (by omega)) (ev_eq fun _ => ?_)
      rw [tdiv_nat, hrr]
    · obtain ⟨o, ho, hO⟩ := ih (p + 1) (by omega) (fun j hj => by
        by_cases cj : j < p
        · exact hf j cj
        · have : j = p := by omega
          subst this
          by_cases c9 : n / 10 ^ j % 10 < 9
          · right; by_cases cz : 0 < ds (n % 10 ^ j)
            · exact absurd ⟨c9, cz⟩ c
            · omega
          · left; omega)
      refine ⟨o, ?_, hO⟩
      refine ev_succ ?_
      simp only [spec_leNear.l0]
      rw [digit_eq n p hn]
      refine ev_pos (by omega) (ev_neg (by omega) (ev_pos trivial ?_))
      have e1 : wrap64 (ds (n % 10 ^ p) + ((n / 10 ^ p % 10 : Nat) : Int)) = ds (n % 10 ^ (p + 1)) := by rw [ds_mod_succ, wrap_of (by omega) (by omega)]
      have e2 : wrap64 (((10 ^ p : Nat) : Int) * 10) = ((10 ^ (p + 1) : Nat) : Int) := by rw [Nat.pow_succ, wrap_of (by omega) (by omega)]; omega
      have e3 : wrap64 ((p : Int) + 1) = ((p + 1 : Nat) : Int) := wrap_nat (by omega)
      have key : Ev (fun k => spec_leNear.j1 k (n : Int) true (ds (n % 10 ^ p)) ((10 ^ p : Nat) : Int) (p : Int) ((n / 10 ^ p % 10 : Nat) : Int) false) o := by
        refine ev_succ ?_
        simp only [spec_leNear.j1]
        refine ev_neg (by decide) (ev_pos trivial ?_)
        rw [e1, e2, e3]
        exact ho
      by_cases c9 : n / 10 ^ p % 10 < 9
      · rw [decide_eq_false (show ¬ ds (n % 10 ^ p) > 0 from fun h => c ⟨c9, h⟩)]
        exact ev_pos (by omega) key
      · exact ev_neg (by omega) key
theorem leNear_last (n : Nat) (hn : n ≤ 10 ^ 12) : ∀ (e p : Nat), p + e = 13 → (∀ j, j < p → n / 10 ^ j % 10 = 0 ∨ ds (n % 10 ^ j) = 9 * j) →
    ∃ o, Ev (fun k => spec_leNear.l0 k (n : Int) false (ds (n % 10 ^ p)) ((10 ^ p : Nat) : Int) (p : Int)) o ∧ LastOut n o := by
  intro e
  induction e with
  | zero =>
    intro p hp hf
    have : p = 13 := by omega
    subst this
    refine ⟨(0, false), ?_, .inl ⟨rfl, fun y h1 => ?_⟩⟩
    · refine ev_succ ?_
      simp only [spec_leNear.l0]
      exact ev_neg (by omega) (ev_eq fun _ => rfl)
    · have h := no_last n 13 hf y
      rw [Nat.mod_eq_of_lt (show n < 10 ^ 13 by omega)] at h
      exact h h1
  | succ e ih =>
    intro p hp hf
    have hp12 : p ≤ 12 := by omega
    have e9 : wrap64 (9 * (p : Int)) = 9 * (p : Int) := wrap_of (by omega) (by omega)
    have e3 : wrap64 ((p : Int) + 1) = ((p + 1 : Nat) : Int) := wrap_nat (by omega)
    have hpp := pow10_pos p
    have hple : (10 : Nat) ^ p ≤ 10 ^ 12 := Nat.pow_le_pow_right (by omega) hp12
    have hd10 : n / 10 ^ p % 10 < 10 := Nat.mod_lt _ (by omega)
    have hr0 := ds_nonneg (n % 10 ^ p)
    have hr1 := ds_le p (n % 10 ^ p) (Nat.mod_lt _ hpp)
    have hdl := Nat.div_le_self n (10 ^ p)
    by_cases c : 0 < n / 10 ^ p % 10 ∧ ds (n % 10 ^ p) < 9 * p
    · obtain ⟨s, hs⟩ : ∃ s : Nat, ds (n % 10 ^ p) = (s : Int) - 1 := ⟨(ds (n % 10 ^ p) + 1).toNat, by omega⟩
      obtain ⟨g1, g2, g3, g4⟩ := last_spec n p s hs (by omega) c.1 hf
      have hq1 : 1 ≤ n / 10 ^ p := Nat.le_trans c.1 (Nat.mod_le _ _)
      refine ⟨((((n / 10 ^ p - 1) * 10 ^ p + fillHi p s : Nat) : Int), true), ?_, .inr ⟨_, rfl, g1, g2, g3⟩⟩
      have hbig : (n / 10 ^ p - 1) * 10 ^ p + fillHi p s < 10 ^ 13 := Nat.lt_of_lt_of_le g1 (Nat.le_trans hn (by omega))
      have hrr := near_dn (n / 10 ^ p) (10 ^ p) (fillHi p s) (Nat.le_trans hdl hn) hq1 hbig
      clear g1 g2 g3 g4 hbig hf
      refine ev_succ ?_
      simp only [spec_leNear.l0]
      rw [digit_eq n p hn]
      refine ev_pos (by omega) (ev_neg (by omega) (ev_neg (by decide) ?_))
      refine ev_succ ?_
      simp only [spec_leNear.j1]
      rw [e9]
      refine ev_neg (by decide) (ev_neg (by decide) (ev_pos (by omega) (ev_pos (by omega) (ev_neg (by omega) ?_))))
      have e1 : wrap64 (ds (n % 10 ^ p) + 1) = (s : Int) := by rw [wrap_of (by omega) (by omega)]; omega
      rw [e1]
      refine Ev.bind (leFillHi_ev p s hp12 (by omega)) (ev_eq fun _ => ?_)
      rw [tdiv_nat, hrr]
    · obtain ⟨o, ho, hO⟩ := ih (p + 1) (by omega) (fun j hj => by
        by_cases cj : j < p
        · exact hf j cj
        · have : j = p := by omega
          subst this
          by_cases c9 : 0 < n / 10 ^ j % 10
          · right; by_cases cz : ds (n % 10 ^ j) < 9 * j
            · exact absurd ⟨c9, cz⟩ c
            · omega
          · left; omega)
      refine ⟨o, ?_, hO⟩
      refine ev_succ ?_
      simp only [spec_leNear.l0]
      rw [digit_eq n p hn]
      refine ev_pos (by omega) (ev_neg (by omega) (ev_neg (by decide) ?_))
      have e1 : wrap64 (ds (n % 10 ^ p) + ((n / 10 ^ p % 10 : Nat) : Int)) = ds (n % 10 ^ (p + 1)) := by rw [ds_mod_succ, wrap_of (by omega) (by omega)]
      have e2 : wrap64 (((10 ^ p : Nat) : Int) * 10) = ((10 ^ (p + 1) : Nat) : Int) := by rw [Nat.pow_succ, wrap_of (by omega) (by omega)]; omega
      refine ev_succ ?_
      simp only [spec_leNear.j1]
      rw [e1, e2, e3, e9]
      refine ev_neg (by decide) (ev_neg (by decide) ?_)
      by_cases c9 : 0 < n / 10 ^ p % 10
      · exact ev_pos (by omega) (ev_neg (fun h => c ⟨c9, h⟩) ho)
      · exact ev_neg (by omega) ho

def fin (o : Int × Bool) : Int × Bool := if o.2 = true then (if o.1 > 1000000000000 then (0, false) else (o.1, true)) else (0, false)
theorem implNext (n : Nat) (hn : n ≤ 10 ^ 12) (o : Int × Bool) (ho : NextOut n o) : Ev (fun k => impl_NextWithSum.f k (n : Int)) (fin o) := by
  unfold impl_NextWithSum.f impl_isLeast.f
  rw [within_eq]
  simp only [Option.bind_some]
  refine ev_pos (by simp; omega) (Ev.bind (idigitSum_ev n (by omega)) (Ev.bind (idigitSum_ev n (by omega)) ?_))
  have h0 := ds_nonneg n
  have h1 := ds_le 13 n (by omega)
  have ew : wrap64 ((n : Int) + 1) = ((n + 1 : Nat) : Int) := wrap_nat (by omega)
  rw [ew]
  refine Ev.bind (ibelow_ev (n + 1) (by omega) (ds n) h0 (by omega)) ?_
  have c0 := cnt_nonneg (ds n) (n + 1)
  rcases ho with ⟨rfl, hno⟩ | ⟨r, rfl, hr, hr13, hs, hno⟩
  · have e : cnt (ds n) (10 ^ 13) = cnt (ds n) (n + 1) := cnt_gap (by omega) (fun x h2 h3 => hno x (by omega) h3)
    rw [cnt_full] at e
    exact Ev.bind (iofSum_big (ds n) (cnt (ds n) (n + 1)) c0 (by omega)) (ev_neg (by simp) (ev_eq fun _ => rfl))
  · have e : cnt (ds n) r = cnt (ds n) (n + 1) := cnt_gap hr (fun x h2 h3 => hno x (by omega) h3)
    have hh := iofSum_hit r hr13
    rw [hs] at hh
    rw [← e]
    refine Ev.bind hh ?_
    have hfin : fin ((r : Int), true) = if (r : Int) > 1000000000000 then (0, false) else ((r : Int), true) := rfl
    rw [hfin]
    by_cases c : (r : Int) ≤ 1000000000000
    · rw [if_neg (show ¬ (r : Int) > 1000000000000 by omega)]
      exact ev_pos (decide_eq_true c) (ev_eq fun _ => rfl)
    · rw [if_pos (show (r : Int) > 1000000000000 by omega)]
      refine ev_neg ?_ (ev_eq fun _ => rfl)
      simp only [decide_eq_true_eq]
      exact c

theorem FnExactNextWithSum : ∀ (a0 : Int), (Lit.int .i64 a0).wf = true → ∃ k, laws_FnExactNextWithSum.f k a0 = some true := by
  intro a _
  refine Ev.rounds ?_
  unfold laws_FnExactNextWithSum.f
  have hc : ∃ o, Ev (fun k => spec_NextWithSum.f k a) o ∧ Ev (fun k => impl_NextWithSum.f k a) o := by
    by_cases h : 0 ≤ a ∧ a ≤ 1000000000000
    · obtain ⟨n, rfl⟩ : ∃ n : Nat, a = (n : Int) := ⟨a.toNat, by omega⟩
      have hn : n ≤ 10 ^ 12 := by omega
      obtain ⟨o, h1, h2⟩ := leNear_next n hn 13 0 (by omega) (fun j hj => by omega)
      refine ⟨fin o, ?_, implNext n hn o h2⟩
      unfold spec_NextWithSum.f spec_leNumber.f spec_leNear.f
      rw [l1In_eq]
      simp only [Option.bind_some]
      refine ev_pos (by simp; omega) ?_
      have e : ds (n % 10 ^ 0) = 0 := by rw [Nat.pow_zero, Nat.mod_one]; exact ds_small (by omega)
      rw [e] at h1
      refine Ev.bind h1 (ev_eq fun _ => ?_)
      unfold fin
      split
      · split <;> rfl
      · rfl
    · refine ⟨(0, false), ev_eq fun k => ?_, ev_eq fun k => ?_⟩
      · unfold spec_NextWithSum.f spec_leNumber.f
        rw [l1In_eq]
        simp only [Option.bind_some]
        rw [if_neg (by simpa using h)]
      · unfold impl_NextWithSum.f impl_isLeast.f
        rw [within_eq]
        simp only [Option.bind_some]
        rw [if_neg (by simpa using h)]
  obtain ⟨o, h1, h2⟩ := hc
  refine Ev.bind h1 (Ev.bind h2 ?_)
  exact ev_pos rfl (ev_neg (by simp) (ev_eq fun _ => rfl))

end Go.Proofs.YtjhmocngcnnfdaaDoor.Pure

/- LeastOfSums: least and greatest numbers have the told sums, next and last ones come next to each other, and counts are those of all digits that come first (numbers, lists and texts alone). -/
import Derived.Test.YtogonichanoeaaaGreatDoorPFnLeastOfSumsx10
namespace Go.Proofs.YtogonichanoeaaaGreatDoor.Pure
open Go.RowKit Go.Proofs.YtogonichanoeaaaGreatDoor.PFnLeastOfSums Go.Proofs.YtogonichanoeaaaGreatDoorW.PrintWords Go.Proofs.YtogonichanoeaaaGreatDoorW.PrintLast
set_option linter.unusedVariables false
set_option linter.unusedSimpArgs false

theorem wrap_of {x : Int} (h0 : -9223372036854775808 ≤ x) (h1 : x ≤ 9223372036854775807) : wrap64 x = x := by unfold wrap64; omega
theorem wrap_nat {i : Nat} (h : i < 4611686018427387904) : wrap64 ((i : Int) + 1) = ((i + 1 : Nat) : Int) := by unfold wrap64; omega
theorem ev_eq {α : Type} {g : Nat → Option α} {r : α} (h : ∀ k, g k = some r) : Ev g r := ⟨0, fun k _ => h k⟩
theorem ev_bind {α β : Type} {x : Option α} {f : Nat → α → Option β} {a : α} {r : β} (h : x = some a) (k : Ev (fun n => f n a) r) : Ev (fun n => x.bind (f n)) r := by subst h; exact k
theorem ev_pos {α : Type} {c : Prop} [Decidable c] {g f : Nat → Option α} {r : α} (h : c) (k : Ev g r) : Ev (fun n => if c then g n else f n) r := by simp only [if_pos h]; exact k
theorem ev_neg {α : Type} {c : Prop} [Decidable c] {g f : Nat → Option α} {r : α} (h : ¬ c) (k : Ev f r) : Ev (fun n => if c then g n else f n) r := by simp only [if_neg h]; exact k
theorem ev_from {α : Type} {g : Nat → Option α} {r : α} (K : Nat) (h : ∀ k, K ≤ k → g k = some r) : Ev g r := ⟨K, h⟩

/-! ### bytes of a text -/
theorem size_len (t : ByteArray) : t.data.toList.length = t.size := by rw [Array.length_toList]; rfl
theorem bt_get (t : ByteArray) (i : Nat) (h : i < t.data.toList.length) : bt t (i : Int) = ((t.data.toList[i]).toNat : Int) := by
  unfold bt
  rw [dif_pos (by rw [Int.toNat_natCast]; simpa using h)]
  simp only [Int.toNat_natCast]
  rfl
theorem ev_succ {α : Type} {g : Nat → Option α} {r : α} (h : Ev (fun k => g (k + 1)) r) : Ev g r := by
  obtain ⟨K, hK⟩ := h
  refine ev_from (K + 1) (fun k hk => ?_)
  obtain ⟨k, rfl⟩ : ∃ m, k = m + 1 := ⟨k - 1, by omega⟩
  exact hK k (by omega)
theorem ext_list (s : ByteArray) (a b : Nat) (hb : b ≤ s.size) : (s.extract a b).data.toList = (s.data.toList.take b).drop a := by
  rw [ByteArray.data_extract, Array.toList_extract, List.extract_eq_take_drop]
  rw [List.drop_take]
theorem take_list (s : ByteArray) (i : Nat) (h : i ≤ s.size) : (s.extract 0 i).data.toList = s.data.toList.take i := by rw [ext_list s 0 i h]; rfl
theorem drop_list (s : ByteArray) (i : Nat) : (s.extract i s.size).data.toList = s.data.toList.drop i := by
  rw [ext_list s i s.size (Nat.le_refl _), List.take_of_length_le (by rw [size_len]; exact Nat.le_refl _)]
theorem mk_data (s : ByteArray) : (⟨s.data.toList.toArray⟩ : ByteArray) = s := by cases s; simp
theorem of_list {s : ByteArray} {l : List UInt8} (h : s.data.toList = l) : s = ⟨l.toArray⟩ := by rw [← h, mk_data]
theorem list_of (l : List UInt8) : (⟨l.toArray⟩ : ByteArray).data.toList = l := by simp
theorem mk_size (l : List UInt8) : (⟨l.toArray⟩ : ByteArray).size = l.length := by rw [← size_len, list_of]
theorem mk_append (a b : List UInt8) : (⟨a.toArray⟩ : ByteArray) ++ ⟨b.toArray⟩ = ⟨(a ++ b).toArray⟩ := by
  apply of_list; rw [ByteArray.data_append, Array.toList_append, list_of, list_of]
theorem l1In_eq (n lo hi : Int) : spec_l1In.f n lo hi = some (decide (lo ≤ n ∧ n ≤ hi)) := by
  unfold spec_l1In.f
  by_cases h : n ≥ lo
  · rw [if_pos h]; congr 1; simp; intro _; omega
  · rw [if_neg h]; congr 1; simp; intro; omega
theorem within_eq (n lo hi : Int) : impl_within.f n lo hi = some (decide (lo ≤ n ∧ n ≤ hi)) := by
  unfold impl_within.f
  by_cases h : lo ≤ n
  · rw [if_pos h]; congr 1; simp; intro _; omega
  · rw [if_neg h]; congr 1; simp; intro; omega

/-! ### digit sums, and how many numbers below one have a sum -/
def ds (n : Nat) : Int := if h : n < 10 then (n : Int) else ((n % 10 : Nat) : Int) + ds (n / 10)
termination_by n
decreasing_by omega
theorem ds_small {n : Nat} (h : n < 10) : ds n = n := by rw [ds, dif_pos h]
theorem ds_step (n : Nat) : ds n = ((n % 10 : Nat) : Int) + ds (n / 10) := by
  by_cases h : n < 10
  · rw [ds_small h, Nat.div_eq_of_lt h, Nat.mod_eq_of_lt h, ds_small (by omega)]; simp
  · rw [ds, dif_neg h]
theorem ds_cons (a d : Nat) (h : d < 10) : ds (10 * a + d) = ds a + d := by
  rw [ds_step, show (10 * a + d) % 10 = d by omega, show (10 * a + d) / 10 = a by omega]; omega
theorem ds_nonneg (n : Nat) : 0 ≤ ds n := by
  induction n using Nat.strongRecOn with
  | _ n ih =>
    by_cases h : n < 10
    · rw [ds_small h]; omega
    · rw [ds_step]; have := ih (n / 10) (by omega); omega
theorem ds_pos {n : Nat} (h : 0 < n) : 0 < ds n := by
  induction n using Nat.strongRecOn with
  | _ n ih =>
    by_cases h1 : n < 10
    · rw [ds_small h1]; omega
    · rw [ds_step]; have := ih (n / 10) (by omega) (by omega); omega
theorem ds_le (k : Nat) : ∀ n, n < 10 ^ k → ds n ≤ 9 * k := by
  induction k with
  | zero => intro n h; have : n = 0 := by simpa using h
            subst this; rw [ds_small (by omega)]; omega
  | succ k ih =>
    intro n h
    rw [ds_step]
    have := ih (n / 10) (by rw [Nat.pow_succ] at h; omega)
    omega
theorem ds_split (k : Nat) : ∀ n, ds n = ds (n % 10 ^ k) + ds (n / 10 ^ k) := by
  induction k with
  | zero => intro n; simp [ds_small, Nat.mod_one]
  | succ k ih =>
    intro n
    rw [ds_step n, ih (n / 10), ds_step (n % 10 ^ (k + 1))]
    have h1 : n % 10 ^ (k + 1) % 10 = n % 10 := Nat.mod_mod_of_dvd n ⟨10 ^ k, by rw [Nat.pow_succ, Nat.mul_comm]⟩
    have h2 : n % 10 ^ (k + 1) / 10 = n / 10 % 10 ^ k := by rw [Nat.pow_succ, Nat.mul_comm, Nat.mod_mul_right_div_self]
    have h3 : n / 10 / 10 ^ k = n / 10 ^ (k + 1) := by rw [Nat.div_div_eq_div_mul, Nat.pow_succ, Nat.mul_comm]
    rw [h1, h2, h3]; omega
/-- how many texts of k digits have a sum -/
def W : Nat → Int → Int
  | 0, s => if s = 0 then 1 else 0
  | k + 1, s => W k s + W k (s - 1) + W k (s - 2) + W k (s - 3) + W k (s - 4) + W k (s - 5) + W k (s - 6) + W k (s - 7) + W k (s - 8) + W k (s - 9)
theorem W_neg (k : Nat) : ∀ s, s < 0 → W k s = 0 := by
  induction k with
  | zero => intro s h; simp only [W]; rw [if_neg (by omega)]
  | succ k ih => intro s h; simp only [W]; repeat rw [ih _ (by omega)]
                 rfl
theorem W_big (k : Nat) : ∀ s, 9 * (k : Int) < s → W k s = 0 := by
  induction k with
  | zero => intro s h; simp only [W]; rw [if_neg (by omega)]
  | succ k ih => intro s h; simp only [W]; repeat rw [ih _ (by omega)]
                 rfl
theorem W_nonneg (k : Nat) : ∀ s, 0 ≤ W k s := by
  induction k with
  | zero => intro s; simp only [W]; split <;> omega
  | succ k ih => intro s; simp only [W]; have h := fun x => ih (s - x); have h0 := ih s; have h1 := h 1; have h2 := h 2; have h3 := h 3; have h4 := h 4; have h5 := h 5; have h6 := h 6; have h7 := h 7; have h8 := h 8; have h9 := h 9; omega
theorem W_le (k : Nat) : ∀ s, W k s ≤ 10 ^ k := by
  induction k with
  | zero => intro s; simp only [W]; split <;> simp
  | succ k ih => intro s; simp only [W]; have h := fun x => ih (s - x); have h0 := ih s; have h1 := h 1; have h2 := h 2; have h3 := h 3; have h4 := h 4; have h5 := h 5; have h6 := h 6; have h7 := h 7; have h8 := h 8; have h9 := h 9; rw [Int.pow_succ]; omega
/-- how many numbers below n have a sum -/
def cnt (s : Int) : Nat → Int
  | 0 => 0
  | n + 1 => cnt s n + if ds n = s then 1 else 0
theorem cnt_mono (s : Int) {m n : Nat} (h : m ≤ n) : cnt s m ≤ cnt s n := by
  induction n with
  | zero => have : m = 0 := by omega
            subst this; exact Int.le_refl _
  | succ n ih =>
    by_cases e : m = n + 1
    · subst e; exact Int.le_refl _
    · have := ih (by omega); simp only [cnt]; split <;> omega
theorem cnt_nonneg (s : Int) (n : Nat) : 0 ≤ cnt s n := cnt_mono s (m := 0) (Nat.zero_le n)
theorem cnt_le (s : Int) (n : Nat) : cnt s n ≤ n := by
  induction n with
  | zero => simp [cnt]
  | succ n ih => simp only [cnt]; split <;> omega
theorem cnt_hit {s : Int} {n : Nat} (h : ds n = s) : cnt s (n + 1) = cnt s n + 1 := by simp only [cnt]; rw [if_pos h]
theorem cnt_miss {s : Int} {n : Nat} (h : ds n ≠ s) : cnt s (n + 1) = cnt s n := by simp only [cnt]; rw [if_neg h]; omega
theorem cnt_gap {s : Int} {m n : Nat} (h : m ≤ n) (hn : ∀ x, m ≤ x → x < n → ds x ≠ s) : cnt s n = cnt s m := by
  induction n with
  | zero => have : m = 0 := by omega
            subst this; rfl
  | succ n ih =>
    by_cases e : m = n + 1
    · subst e; rfl
    · rw [cnt_miss (hn n (by omega) (by omega)), ih (by omega) (fun x h1 h2 => hn x h1 (by omega))]
theorem cnt_inj {s : Int} {m n : Nat} (hm : ds m = s) (hn : ds n = s) (h : cnt s m = cnt s n) : m = n := by
  rcases Nat.lt_trichotomy m n with h1 | h1 | h1
  · have := cnt_mono s (m := m + 1) (n := n) h1; rw [cnt_hit hm] at this; omega
  · exact h1
  · have := cnt_mono s (m := n + 1) (n := m) h1; rw [cnt_hit hn] at this; omega
theorem cnt_block (k : Nat) : ∀ (s : Int) (a : Nat), cnt s (10 ^ k * (a + 1)) = cnt s (10 ^ k * a) + W k (s - ds a) := by
  induction k with
  | zero =>
    intro s a
    rw [Nat.pow_zero, Nat.one_mul, Nat.one_mul]
    simp only [W, cnt]
    by_cases h : ds a = s
    · rw [if_pos h, if_pos (by omega)]
    · rw [if_neg h, if_neg (by omega)]
  | succ k ih =>
    intro s a
    have st : ∀ d, d < 10 → cnt s (10 ^ k * (10 * a + d + 1)) = cnt s (10 ^ k * (10 * a + d)) + W k (s - ds a - d) := fun d hd => by
      rw [ih s (10 * a + d), ds_cons a d hd, show s - (ds a + (d : Int)) = s - ds a - d by omega]
    have e0 : 10 ^ (k + 1) * a = 10 ^ k * (10 * a + 0) := by rw [Nat.pow_succ, Nat.mul_assoc]; rfl
    have e1 : 10 ^ (k + 1) * (a + 1) = 10 ^ k * (10 * a + 9 + 1) := by rw [Nat.pow_succ, Nat.mul_assoc]; congr 1
    rw [e0, e1, st 9 (by omega), st 8 (by omega), st 7 (by omega), st 6 (by omega), st 5 (by omega), st 4 (by omega), st 3 (by omega), st 2 (by omega), st 1 (by omega), st 0 (by omega)]
    simp only [W]
    simp
    omega

/-! ### texts of digits: sums, numbers -/
def dv (b : UInt8) : Int := ((b.toNat : Int) - 48) % 256
theorem dv_range (b : UInt8) : 0 ≤ dv b ∧ dv b ≤ 255 := by unfold dv; omega
def lsum : List UInt8 → Int
  | [] => 0
  | b :: l => dv b + lsum l
theorem lsum_range (l : List UInt8) : 0 ≤ lsum l ∧ lsum l ≤ 255 * l.length := by
  induction l with
  | nil => simp [lsum]
  | cons b l ih => have := dv_range b; simp only [lsum, List.length_cons]; omega
theorem lsum_append (a b : List UInt8) : lsum (a ++ b) = lsum a + lsum b := by
  induction a with
  | nil => simp [lsum]
  | cons x a ih => simp only [List.cons_append, lsum, ih]; omega
def dch (d : Nat) : UInt8 := UInt8.ofNat (48 + d)
theorem dch_nat {d : Nat} (h : d < 10) : (dch d).toNat = 48 + d := by unfold dch; rw [UInt8.toNat_ofNat']; omega
theorem dv_dch {d : Nat} (h : d < 10) : dv (dch d) = d := by unfold dv; rw [dch_nat h]; omega
/-- k digits of n, zeros in front -/
def pad : Nat → Nat → List UInt8
  | 0, _ => []
  | k + 1, n => pad k (n / 10) ++ [dch (n % 10)]
theorem pad_length (k : Nat) : ∀ n, (pad k n).length = k := by
  induction k with
  | zero => intro n; rfl
  | succ k ih => intro n; simp [pad, ih]
theorem pad_zero (k : Nat) : pad k 0 = List.replicate k 48 := by
  induction k with
  | zero => rfl
  | succ k ih => rw [List.replicate_succ', ← ih]; rfl
theorem pad_take (k : Nat) : ∀ (j n : Nat), (pad (k + j) n).take k = pad k (n / 10 ^ j) := by
  intro j
  induction j with
  | zero => intro n; rw [Nat.add_zero, List.take_of_length_le (by rw [pad_length]; exact Nat.le_refl _)]; simp
  | succ j ih =>
    intro n
    rw [show k + (j + 1) = (k + j) + 1 by omega]
    simp only [pad]
    rw [List.take_append_of_le_length (by rw [pad_length]; omega), ih, Nat.div_div_eq_div_mul, Nat.pow_succ, Nat.mul_comm]
theorem pad_drop (j : Nat) : ∀ (k n : Nat), (pad (k + j) n).drop k = pad j (n % 10 ^ j) := by
  induction j with
  | zero => intro k n; rw [Nat.add_zero, List.drop_eq_nil_of_le (by rw [pad_length]; exact Nat.le_refl _)]; rfl
  | succ j ih =>
    intro k n
    rw [show k + (j + 1) = (k + j) + 1 by omega]
    simp only [pad]
    rw [List.drop_append_of_le_length (by rw [pad_length]; omega), ih]
    congr 1
    · congr 1
      rw [Nat.pow_succ, Nat.mul_comm, Nat.mod_mul_right_div_self]
    · congr 2
      rw [Nat.pow_succ, Nat.mul_comm]; exact (Nat.mod_mul_right_mod n 10 (10 ^ j)).symm
theorem pad_get (k n i : Nat) (h : i < (pad k n).length) : (pad k n)[i] = dch (n / 10 ^ (k - 1 - i) % 10) := by
  induction k generalizing n i with
  | zero => simp [pad] at h
  | succ k ih =>
    rw [pad_length] at h
    simp only [pad]
    by_cases c : i < k
    · rw [List.getElem_append_left (by rw [pad_length]; exact c), ih _ _ (by rw [pad_length]; exact c), Nat.div_div_eq_div_mul, show k + 1 - 1 - i = (k - 1 - i) + 1 by omega, Nat.pow_succ, Nat.mul_comm]
    · have : i = k := by omega
      subst this
      rw [List.getElem_append_right (by rw [pad_length]; exact Nat.le_refl _)]
      simp [pad_length]
theorem lsum_pad (k : Nat) : ∀ n, n < 10 ^ k → lsum (pad k n) = ds n := by
  induction k with
  | zero => intro n h; have : n = 0 := by simpa using h
            subst this; rw [ds_small (by omega)]; rfl
  | succ k ih =>
    intro n h
    simp only [pad]
    rw [lsum_append, ih _ (by rw [Nat.pow_succ] at h; omega), ds_step n]
    simp only [lsum, dv_dch (Nat.mod_lt n (by omega : 0 < 10))]; omega
def lnum (a : Int) : List UInt8 → Int
  | [] => a
  | b :: l => lnum (10 * a + dv b) l
theorem lnum_append (l m : List UInt8) : ∀ a, lnum a (l ++ m) = lnum (lnum a l) m := by
  induction l with
  | nil => intro a; rfl
  | cons b l ih => intro a; simp only [List.cons_append, lnum, ih]
theorem lnum_pad (k : Nat) : ∀ n, n < 10 ^ k → lnum 0 (pad k n) = n := by
  induction k with
  | zero => intro n h; have : n = 0 := by simpa using h
            subst this; rfl
  | succ k ih =>
    intro n h
    simp only [pad]
    rw [lnum_append, ih _ (by rw [Nat.pow_succ] at h; omega)]
    simp only [lnum, dv_dch (Nat.mod_lt n (by omega : 0 < 10))]; omega
theorem dec_pad (n : Nat) : Lib.decDigits n = pad (Lib.nDigits n) n := by
  induction n using Nat.strongRecOn with
  | _ n ih =>
    by_cases h : n < 10
    · rw [Lib.decDigits, dif_pos h, Lib.nDigits_small h]; simp [pad, dch, Nat.mod_eq_of_lt h]
    · rw [Lib.decDigits, dif_neg h, Lib.nDigits_big h, ih _ (by omega)]; rfl
theorem pad_front (j k n : Nat) (h : n < 10 ^ k) : pad (j + k) n = List.replicate j 48 ++ pad k n := by
  induction k generalizing n with
  | zero => have : n = 0 := by simpa using h
            subst this; simp [pad, pad_zero]
  | succ k ih =>
    rw [show j + (k + 1) = (j + k) + 1 by omega]
    simp only [pad]
    rw [ih _ (by rw [Nat.pow_succ] at h; omega), List.append_assoc]

/-! ### the next number with the same digit sum, and the last one before -/
def fillLo : Nat → Nat → Nat
  | 0, _ => 0
  | k + 1, s => (s - 9 * k) * 10 ^ k + fillLo k (s - (s - 9 * k))
def fillHi : Nat → Nat → Nat
  | 0, _ => 0
  | k + 1, s => min 9 s * 10 ^ k + fillHi k (s - min 9 s)
theorem pow10_pos (k : Nat) : 0 < 10 ^ k := Nat.pow_pos (by omega)
theorem ds_join (k a r : Nat) (h : r < 10 ^ k) : ds (a * 10 ^ k + r) = ds a + ds r := by
  rw [ds_split k, Nat.mul_comm a, Nat.mul_add_mod, Nat.mod_eq_of_lt h, Nat.mul_add_div (pow10_pos k), Nat.div_eq_of_lt h, Nat.add_zero]; omega
theorem join_lt {k a r b : Nat} (h : r < 10 ^ k) (ha : a < b) : a * 10 ^ k + r < b * 10 ^ k := by
  have : (a + 1) * 10 ^ k ≤ b * 10 ^ k := Nat.mul_le_mul_right _ ha
  rw [Nat.add_mul] at this; omega
theorem fillLo_spec (k : Nat) : ∀ s, s ≤ 9 * k → fillLo k s < 10 ^ k ∧ ds (fillLo k s) = s ∧ ∀ m, m < 10 ^ k → ds m = s → fillLo k s ≤ m := by
  induction k with
  | zero => intro s h; have : s = 0 := by omega
            subst this; exact ⟨by simp [fillLo], by simp [fillLo, ds_small], fun m _ _ => Nat.zero_le m⟩
  | succ k ih =>
    intro s h
    obtain ⟨h1, h2, h3⟩ := ih (s - (s - 9 * k)) (by omega)
    simp only [fillLo]
    have hd : s - 9 * k < 10 := by omega
    refine ⟨by rw [Nat.pow_succ, Nat.mul_comm (10 ^ k)]; exact join_lt h1 hd, by rw [ds_join k _ _ h1, h2, ds_small hd]; omega, fun m hm hs => ?_⟩
    have hm0 : m = m / 10 ^ k * 10 ^ k + m % 10 ^ k := by rw [Nat.mul_comm]; exact (Nat.div_add_mod m _).symm
    have hr : m % 10 ^ k < 10 ^ k := Nat.mod_lt _ (pow10_pos k)
    have hq : m / 10 ^ k < 10 := by rw [Nat.pow_succ] at hm; exact (Nat.div_lt_iff_lt_mul (pow10_pos k)).mpr (by rw [Nat.mul_comm]; exact hm)
    have hsum : ds m = ((m / 10 ^ k : Nat) : Int) + ds (m % 10 ^ k) := by rw [ds_split k m, ds_small hq]; omega
    have hrl := ds_le k _ hr
    rcases Nat.lt_trichotomy (s - 9 * k) (m / 10 ^ k) with c | c | c
    · have := join_lt h1 c; rw [hm0]; omega
    · have := h3 (m % 10 ^ k) hr (by omega); rw [hm0, ← c]; omega
    · exfalso; clear hm0 hm hr h1 h2 h3 ih; generalize m / 10 ^ k = q at *; omega
theorem fillHi_spec (k : Nat) : ∀ s, s ≤ 9 * k → fillHi k s < 10 ^ k ∧ ds (fillHi k s) = s ∧ ∀ m, m < 10 ^ k → ds m = s → m ≤ fillHi k s := by
  induction k with
  | zero => intro s h; have : s = 0 := by omega
            subst this; exact ⟨by simp [fillHi], by simp [fillHi, ds_small], fun m hm _ => by simp at hm; subst hm; exact Nat.zero_le _⟩
  | succ k ih =>
    intro s h
    obtain ⟨h1, h2, h3⟩ := ih (s - min 9 s) (by omega)
    simp only [fillHi]
    have hd : min 9 s < 10 := by omega
    refine ⟨by rw [Nat.pow_succ, Nat.mul_comm (10 ^ k)]; exact join_lt h1 hd, by rw [ds_join k _ _ h1, h2, ds_small hd]; omega, fun m hm hs => ?_⟩
    have hm0 : m = m / 10 ^ k * 10 ^ k + m % 10 ^ k := by rw [Nat.mul_comm]; exact (Nat.div_add_mod m _).symm
    have hr : m % 10 ^ k < 10 ^ k := Nat.mod_lt _ (pow10_pos k)
    have hq : m / 10 ^ k < 10 := by rw [Nat.pow_succ] at hm; exact (Nat.div_lt_iff_lt_mul (pow10_pos k)).mpr (by rw [Nat.mul_comm]; exact hm)
    have hsum : ds m = ((m / 10 ^ k : Nat) : Int) + ds (m % 10 ^ k) := by rw [ds_split k m, ds_small hq]; omega
    have hr0 := ds_nonneg (m % 10 ^ k)
    rcases Nat.lt_trichotomy (m / 10 ^ k) (min 9 s) with c | c | c
    · have := join_lt hr c; rw [hm0]; omega
    · have := h3 (m % 10 ^ k) hr (by omega); rw [hm0, c]; omega
    · omega
theorem no_next (n : Nat) (p : Nat) (hf : ∀ j, j < p → n / 10 ^ j % 10 = 9 ∨ ds (n % 10 ^ j) = 0) : ∀ y, n % 10 ^ p < y → y < 10 ^ p → ds y ≠ ds (n % 10 ^ p) := by
  induction p with
  | zero => intro y h1 h2; simp at h2; omega
  | succ p ih =>
    intro y h1 h2 h3
    have ih := ih (fun j hj => hf j (by omega))
    have e : n % 10 ^ (p + 1) = n / 10 ^ p % 10 * 10 ^ p + n % 10 ^ p := by rw [Nat.pow_succ, Nat.mod_mul, Nat.mul_comm (10 ^ p)]; omega
    have hy : y = y / 10 ^ p * 10 ^ p + y % 10 ^ p := by rw [Nat.mul_comm]; exact (Nat.div_add_mod y _).symm
    have hr : y % 10 ^ p < 10 ^ p := Nat.mod_lt _ (pow10_pos p)
    have hn : n % 10 ^ p < 10 ^ p := Nat.mod_lt _ (pow10_pos p)
    have hq : y / 10 ^ p < 10 := by rw [Nat.pow_succ] at h2; exact (Nat.div_lt_iff_lt_mul (pow10_pos p)).mpr (by rw [Nat.mul_comm]; exact h2)
    have hd : n / 10 ^ p % 10 < 10 := Nat.mod_lt _ (by omega)
    have s1 : ds y = ((y / 10 ^ p : Nat) : Int) + ds (y % 10 ^ p) := by rw [ds_split p y, ds_small hq]; omega
    have s2 : ds (n % 10 ^ (p + 1)) = ((n / 10 ^ p % 10 : Nat) : Int) + ds (n % 10 ^ p) := by rw [e, ds_join p _ _ hn, ds_small hd]
    have hy0 := ds_nonneg (y % 10 ^ p)
    rcases Nat.lt_trichotomy (n / 10 ^ p % 10) (y / 10 ^ p) with c | c | c
    · rcases hf p (by omega) with h | h <;> omega
    · rw [e] at h1; rw [hy] at h1; rw [← c] at h1; exact ih (y % 10 ^ p) (by omega) hr (by omega)
    · have := join_lt hr c; rw [← hy] at this; rw [e] at h1; omega
theorem no_last (n : Nat) (p : Nat) (hf : ∀ j, j < p → n / 10 ^ j % 10 = 0 ∨ ds (n % 10 ^ j) = 9 * j) : ∀ y, y < n % 10 ^ p → ds y ≠ ds (n % 10 ^ p) := by
  induction p with
  | zero => intro y h1; simp [Nat.mod_one] at h1
  | succ p ih =>
    intro y h1 h3
    have ih := ih (fun j hj => hf j (by omega))
    have e : n % 10 ^ (p + 1) = n / 10 ^ p % 10 * 10 ^ p + n % 10 ^ p := by rw [Nat.pow_succ, Nat.mod_mul, Nat.mul_comm (10 ^ p)]; omega
    have hy : y = y / 10 ^ p * 10 ^ p + y % 10 ^ p := by rw [Nat.mul_comm]; exact (Nat.div_add_mod y _).symm
    have hr : y % 10 ^ p < 10 ^ p := Nat.mod_lt _ (pow10_pos p)
    have hn : n % 10 ^ p < 10 ^ p := Nat.mod_lt _ (pow10_pos p)
    have hd : n / 10 ^ p % 10 < 10 := Nat.mod_lt _ (by omega)
    have h2 : y < 10 ^ (p + 1) := Nat.lt_trans h1 (Nat.mod_lt _ (pow10_pos _))
    have hq : y / 10 ^ p < 10 := by rw [Nat.pow_succ] at h2; exact (Nat.div_lt_iff_lt_mul (pow10_pos p)).mpr (by rw [Nat.mul_comm]; exact h2)
    have s1 : ds y = ((y / 10 ^ p : Nat) : Int) + ds (y % 10 ^ p) := by rw [ds_split p y, ds_small hq]; omega
    have s2 : ds (n % 10 ^ (p + 1)) = ((n / 10 ^ p % 10 : Nat) : Int) + ds (n % 10 ^ p) := by rw [e, ds_join p _ _ hn, ds_small hd]
    have hy0 := ds_le p _ hr
    rcases Nat.lt_trichotomy (y / 10 ^ p) (n / 10 ^ p % 10) with c | c | c
    · exfalso; have hfp := hf p (by omega); clear hf hy hr hn h2 e ih h1; generalize y / 10 ^ p = q at *; generalize n / 10 ^ p % 10 = t at *; rcases hfp with h | h <;> omega
    · rw [e] at h1; rw [hy] at h1; rw [c] at h1; exact ih (y % 10 ^ p) (by omega) (by omega)
    · have := join_lt hn c; rw [← e] at this; rw [hy] at h1; omega
theorem ds_succ {a : Nat} (h : a % 10 < 9) : ds (a + 1) = ds a + 1 := by
  rw [ds_step, ds_step a, show (a + 1) % 10 = a % 10 + 1 by omega, show (a + 1) / 10 = a / 10 by omega]; omega
theorem ds_pred {a : Nat} (h : 0 < a % 10) : ds (a - 1) = ds a - 1 := by
  rw [ds_step, ds_step a, show (a - 1) % 10 = a % 10 - 1 by omega, show (a - 1) / 10 = a / 10 by omega]; omega
theorem div_mod_parts (x p : Nat) : x = x / 10 ^ p * 10 ^ p + x % 10 ^ p := by rw [Nat.mul_comm]; exact (Nat.div_add_mod x _).symm
/-- the next number with the same digit sum -/
theorem next_spec (n p s : Nat) (hs : ds (n % 10 ^ p) = (s : Int) + 1) (hd : n / 10 ^ p % 10 < 9) (hf : ∀ j, j < p → n / 10 ^ j % 10 = 9 ∨ ds (n % 10 ^ j) = 0) :
    n < (n / 10 ^ p + 1) * 10 ^ p + fillLo p s ∧ ds ((n / 10 ^ p + 1) * 10 ^ p + fillLo p s) = ds n ∧ (∀ x, n < x → x < (n / 10 ^ p + 1) * 10 ^ p + fillLo p s → ds x ≠ ds n) ∧ fillLo p s < 10 ^ p := by
  have hn : n % 10 ^ p < 10 ^ p := Nat.mod_lt _ (pow10_pos p)
  have hl := ds_le p _ hn
  obtain ⟨f1, f2, f3⟩ := fillLo_spec p s (by omega)
  have hn0 := div_mod_parts n p
  have hjn := join_lt hn (Nat.lt_succ_self (n / 10 ^ p))
  have sn : ds n = ds (n / 10 ^ p) + ds (n % 10 ^ p) := by rw [ds_split p n]; omega
  refine ⟨by rw [← hn0] at hjn; exact Nat.lt_of_lt_of_le hjn (Nat.le_add_right _ _), by rw [ds_join p _ _ f1, ds_succ hd, f2, sn, hs]; omega, fun x h1 h2 h3 => ?_, f1⟩
  have hx0 := div_mod_parts x p
  have hx : x % 10 ^ p < 10 ^ p := Nat.mod_lt _ (pow10_pos p)
  have sx : ds x = ds (x / 10 ^ p) + ds (x % 10 ^ p) := by rw [ds_split p x]; omega
  rcases Nat.lt_trichotomy (x / 10 ^ p) (n / 10 ^ p) with c | c | c
  · have := join_lt hx c; rw [← hx0] at this; omega
  · refine no_next n p hf (x % 10 ^ p) ?_ hx ?_
    · rw [hn0, hx0, c] at h1; omega
    · rw [sx, sn, c] at h3; omega
  · by_cases c2 : x / 10 ^ p = n / 10 ^ p + 1
    · have := f3 (x % 10 ^ p) hx (by rw [sx, sn, c2, ds_succ hd, hs] at h3; omega)
      rw [hx0, c2] at h2; omega
    · have := join_lt f1 (show n / 10 ^ p + 1 < x / 10 ^ p by omega); rw [hx0] at h2; omega
/-- the last number before one with the same digit sum -/
theorem last_spec (n p s : Nat) (hs : ds (n % 10 ^ p) = (s : Int) - 1) (hl : s ≤ 9 * p) (hd : 0 < n / 10 ^ p % 10) (hf : ∀ j, j < p → n / 10 ^ j % 10 = 0 ∨ ds (n % 10 ^ j) = 9 * j) :
    (n / 10 ^ p - 1) * 10 ^ p + fillHi p s < n ∧ ds ((n / 10 ^ p - 1) * 10 ^ p + fillHi p s) = ds n ∧ (∀ x, (n / 10 ^ p - 1) * 10 ^ p + fillHi p s < x → x < n → ds x ≠ ds n) ∧ fillHi p s < 10 ^ p := by
  have hn : n % 10 ^ p < 10 ^ p := Nat.mod_lt _ (pow10_pos p)
  obtain ⟨f1, f2, f3⟩ := fillHi_spec p s hl
  have hn0 := div_mod_parts n p
  have hq : 0 < n / 10 ^ p := by have := Nat.mod_le (n / 10 ^ p) 10; omega
  have hjn := join_lt f1 (show n / 10 ^ p - 1 < n / 10 ^ p by omega)
  have sn : ds n = ds (n / 10 ^ p) + ds (n % 10 ^ p) := by rw [ds_split p n]; omega
  refine ⟨by omega, by rw [ds_join p _ _ f1, ds_pred hd, f2, sn, hs]; omega, fun x h1 h2 h3 => ?_, f1⟩
  have hx0 := div_mod_parts x p
  have hx : x % 10 ^ p < 10 ^ p := Nat.mod_lt _ (pow10_pos p)
  have sx : ds x = ds (x / 10 ^ p) + ds (x % 10 ^ p) := by rw [ds_split p x]; omega
  rcases Nat.lt_trichotomy (x / 10 ^ p) (n / 10 ^ p) with c | c | c
  · by_cases c2 : x / 10 ^ p = n / 10 ^ p - 1
    · have := f3 (x % 10 ^ p) hx (by rw [sx, sn, c2, ds_pred hd, hs] at h3; omega)
      rw [hx0, c2] at h1; omega
    · have := join_lt hx (show x / 10 ^ p < n / 10 ^ p - 1 by omega); rw [← hx0] at this; omega
  · refine no_last n p hf (x % 10 ^ p) ?_ ?_
    · rw [hn0, hx0, c] at h2; omega
    · rw [sx, sn, c] at h3; omega
  · have := join_lt hn c; rw [← hn0] at this; omega

/-! ### lists told by a function -/
def tab (n : Nat) (f : Nat → Int) : List Int := (List.range n).map f
theorem tab_len (n : Nat) (f : Nat → Int) : (tab n f).length = n := by simp [tab]
theorem tab_rd {n : Nat} {f : Nat → Int} {i : Nat} (h : i < n) : rd (tab n f) (i : Int) = f i := by
  unfold rd tab
  rw [Int.toNat_natCast, List.getD_eq_getElem?_getD, List.getElem?_eq_getElem (by simpa using h)]
  simp
theorem tab_set (n : Nat) (f : Nat → Int) (j : Nat) (v : Int) : (tab n f).set j v = tab n (fun i => if i = j then v else f i) := by
  unfold tab
  apply List.ext_getElem
  · simp
  · intro i h1 h2
    rw [List.getElem_set]
    simp only [List.getElem_map, List.getElem_range]
    by_cases c : j = i
    · rw [if_pos c, if_pos c.symm]
    · rw [if_neg c, if_neg (fun e => c e.symm)]
theorem tab_zero (n : Nat) : List.replicate n (0 : Int) = tab n (fun _ => 0) := by
  unfold tab
  apply List.ext_getElem <;> simp
theorem tab_congr {n : Nat} {f g : Nat → Int} (h : ∀ i, i < n → f i = g i) : tab n f = tab n g := by
  unfold tab
  apply List.ext_getElem
  · simp
  · intro i h1 h2
    simp only [List.getElem_map, List.getElem_range]
    exact h i (by simpa using h1)

/-! ### the table of ways -/
theorem p10 (k : Nat) : (10 : Int) ^ k = ((10 ^ k : Nat) : Int) := by rw [Int.natCast_pow]; rfl
theorem p10_le {a b : Nat} (h : a ≤ b) : (10 : Int) ^ a ≤ 10 ^ b := by rw [p10, p10]; exact Int.ofNat_le.mpr (Nat.pow_le_pow_right (by omega) h)
def wl (k : Nat) : List Int := tab (9 * k + 1) (fun i => W k i)
/-- what counts s, s + 1, .. bring to count i, digits below m alone -/
def T (k : Nat) (s i : Int) : Nat → Int
  | 0 => 0
  | m + 1 => T k s i m + if s ≤ i - m then W k (i - m) else 0
theorem T_nonneg (k : Nat) (s i : Int) (m : Nat) : 0 ≤ T k s i m := by
  induction m with
  | zero => exact Int.le_refl _
  | succ m ih => simp only [T]; have := W_nonneg k (i - m); split <;> omega
theorem T_step (k : Nat) (s i : Int) (m : Nat) : T k s i m = T k (s + 1) i m + if s ≤ i ∧ i < s + m then W k s else 0 := by
  induction m with
  | zero => simp only [T]; rw [if_neg (by omega)]; try rfl
  | succ m ih =>
    simp only [T]
    rw [ih]
    by_cases h : i - m = s
    · rw [h, if_pos (Int.le_refl s), if_neg (show ¬ (s + 1 ≤ s) by omega), if_neg (show ¬ (s ≤ i ∧ i < s + m) by omega), if_pos (show s ≤ i ∧ i < s + ((m + 1 : Nat) : Int) by omega)]; try omega
    · by_cases c : s ≤ i ∧ i < s + m
      · rw [if_pos c, if_pos (show s ≤ i ∧ i < s + ((m + 1 : Nat) : Int) by omega)]
        by_cases d : s ≤ i - m
        · rw [if_pos d, if_pos (by omega)]; omega
        · rw [if_neg d, if_neg (by omega)]; omega
      · rw [if_neg c, if_neg (show ¬ (s ≤ i ∧ i < s + ((m + 1 : Nat) : Int)) by omega)]
        by_cases d : s ≤ i - m
        · rw [if_pos d, if_pos (by omega)]; omega
        · rw [if_neg d, if_neg (by omega)]; try omega
theorem T_end (k : Nat) (s i : Int) (m : Nat) (h : 9 * (k : Int) < s) : T k s i m = 0 := by
  induction m with
  | zero => rfl
  | succ m ih =>
    simp only [T]
    rw [ih]
    by_cases c : s ≤ i - m
    · rw [if_pos c, W_big k _ (by omega)]; try rfl
    · rw [if_neg c]; try rfl
theorem T_all (k : Nat) (i : Int) : T k 0 i 10 = W (k + 1) i := by
  have e : ∀ x : Int, (if (0 : Int) ≤ x then W k x else 0) = W k x := fun x => by
    by_cases c : 0 ≤ x
    · rw [if_pos c]
    · rw [if_neg c, W_neg k x (by omega)]
  simp only [T, e, W]
  simp
theorem iways_l2 (N s : Nat) (n : Int) (x9 x10 : Int) (x16 : List Int) (x17 x18 : Int) (hN : s + 10 ≤ N) (hb : N ≤ 1000000) (hn : 0 ≤ n) (hn2 : n ≤ 100000000000000) (r : List Int) :
    ∀ (e d : Nat) (g : Nat → Int), d + e = 10 → (∀ i, s + d ≤ i → 0 ≤ g i ∧ g i ≤ 100000000000000) →
      Ev (fun k => impl_ways.l1 k (tab N (fun i => if s + d ≤ i ∧ i < s + 10 then g i + n else g i)) x9 x10 x16 x17 (wrap64 (x18 + 1))) r →
      Ev (fun k => impl_ways.l2 k (tab N g) (s : Int) n x9 x10 x16 x17 x18 (d : Int)) r := by
  intro e
  induction e with
  | zero =>
    intro d g hd hg h
    refine ev_succ ?_
    simp only [impl_ways.l2]
    refine ev_neg (by omega) ?_
    have : (tab N fun i => if s + d ≤ i ∧ i < s + 10 then g i + n else g i) = tab N g := tab_congr (fun i _ => if_neg (by omega))
    rw [this] at h
    exact h
  | succ e ih =>
    intro d g hd hg h
    refine ev_succ ?_
    simp only [impl_ways.l2]
    have hw : wrap64 ((s : Int) + d) = ((s + d : Nat) : Int) := by rw [wrap_of (by omega) (by omega)]; omega
    rw [hw, tab_len, tab_rd (by omega), Int.toNat_natCast, tab_set, wrap_nat (i := d) (by omega)]
    refine ev_pos (by omega) (ev_pos (by omega) (ev_pos (by omega) ?_))
    have hg1 := hg (s + d) (Nat.le_refl _)
    rw [wrap_of (x := g (s + d) + n) (by omega) (by omega)]
    refine ih (d + 1) (fun i => if i = s + d then g (s + d) + n else g i) (by omega) (fun i hi => ?_) ?_
    · rw [if_neg (by omega)]; exact hg i (by omega)
    · have : (tab N fun i => if s + (d + 1) ≤ i ∧ i < s + 10 then (if i = s + d then g (s + d) + n else g i) + n else (if i = s + d then g (s + d) + n else g i)) = tab N fun i => if s + d ≤ i ∧ i < s + 10 then g i + n else g i := by
        refine tab_congr (fun i _ => ?_)
        by_cases c : i = s + d
        · subst c
          rw [if_neg (by omega), if_pos rfl, if_pos (by omega)]
        · rw [if_neg c]
          by_cases c2 : s + d ≤ i ∧ i < s + 10
          · rw [if_pos (by omega), if_pos c2]
          · rw [if_neg (by omega), if_neg c2]
      rw [this]
      exact h
theorem iways_l1 (q : Nat) (hq : q ≤ 13) (x9 x10 : Int) (r : List Int) (h : Ev (fun k => impl_ways.l0 k (wl (q + 1)) x9 (wrap64 (x10 + 1))) r) :
    ∀ (e s : Nat) (g : Nat → Int), s + e = 9 * q + 1 → (∀ i, 0 ≤ g i ∧ g i + T q s i 10 = W (q + 1) i) →
      Ev (fun k => impl_ways.l1 k (tab (9 * q + 10) g) x9 x10 (wl q) ((9 * q + 1 : Nat) : Int) (s : Int)) r := by
  have hW : ∀ i, W (q + 1) i ≤ 100000000000000 := fun i => by
    have h1 := W_le (q + 1) i
    have h2 : (10 : Int) ^ (q + 1) ≤ 10 ^ 14 := p10_le (by omega)
    omega
  intro e
  induction e with
  | zero =>
    intro s g hs hg
    refine ev_succ ?_
    simp only [impl_ways.l1]
    refine ev_neg (by omega) ?_
    have : tab (9 * q + 10) g = wl (q + 1) := by
      unfold wl
      rw [show 9 * (q + 1) + 1 = 9 * q + 10 by omega]
      refine tab_congr (fun i _ => ?_)
      have := (hg i).2
      rw [T_end q s i 10 (by omega)] at this
      omega
    rw [this]
    exact h
  | succ e ih =>
    intro s g hs hg
    refine ev_succ ?_
    simp only [impl_ways.l1]
    have hl : (wl q).length = 9 * q + 1 := tab_len _ _
    have hr : rd (wl q) (s : Int) = W q s := tab_rd (by omega)
    rw [hl, hr]
    refine ev_pos (by omega) (ev_pos (by omega) (ev_pos (by omega) ?_))
    have hn := W_nonneg q s
    have hn2 : W q s ≤ 100000000000000 := by
      have h1 := W_le q s
      have h2 : (10 : Int) ^ q ≤ 10 ^ 14 := p10_le (by omega)
      omega
    have hT : ∀ i : Nat, 0 ≤ T q s i 10 := fun i => T_nonneg q s i 10
    have key := iways_l2 (9 * q + 10) s (W q s) x9 x10 (wl q) ((9 * q + 1 : Nat) : Int) (s : Int) (by omega) (by omega) hn hn2 r 10 0 g (by omega) (fun i _ => ⟨(hg i).1, by have := (hg i).2; have := hT i; have := hW i; omega⟩)
    refine key ?_
    have hw : wrap64 ((s : Int) + 1) = ((s + 1 : Nat) : Int) := wrap_nat (by omega)
    rw [hw]
    refine ih (s + 1) _ (by omega) (fun i => ?_)
    have h1 := hg i
    have h2 := T_step q s i 10
    have h3 : ((s + 1 : Nat) : Int) = (s : Int) + 1 := by omega
    rw [h3]
    by_cases c : s + 0 ≤ i ∧ i < s + 10
    · rw [if_pos c]
      rw [if_pos (by omega)] at h2
      omega
    · rw [if_neg c]
      rw [if_neg (by omega)] at h2
      omega
theorem iways_l0 (p : Nat) (hp : p ≤ 13) : ∀ (e j : Nat), j + e = p → Ev (fun k => impl_ways.l0 k (wl j) (p : Int) (j : Int)) (wl p) := by
  intro e
  induction e with
  | zero =>
    intro j hj
    refine ev_succ ?_
    simp only [impl_ways.l0]
    have : j = p := by omega
    subst this
    exact ev_neg (by omega) (ev_eq fun _ => rfl)
  | succ e ih =>
    intro j hj
    refine ev_succ ?_
    simp only [impl_ways.l0]
    have hl : (wl j).length = 9 * j + 1 := tab_len _ _
    have hw : wrap64 (((9 * j + 1 : Nat) : Int) + 9) = ((9 * j + 10 : Nat) : Int) := by rw [wrap_of (by omega) (by omega)]; omega
    rw [hl, hw, Int.toNat_natCast, tab_zero]
    refine ev_pos (by omega) (ev_pos (by omega) (ev_pos (by omega) ?_))
    refine iways_l1 j (by omega) (p : Int) (j : Int) (wl p) ?_ (9 * j + 1) 0 (fun _ => 0) (by omega) (fun i => ⟨Int.le_refl 0, ?_⟩)
    · rw [wrap_nat (i := j) (by omega)]
      exact ih (j + 1) (by omega)
    · have := T_all j i
      simp only [Int.zero_add]
      exact this
theorem iways_ev (p : Nat) (hp : p ≤ 13) : Ev (fun k => impl_ways.f k (p : Int)) (wl p) := by
  unfold impl_ways.f
  exact iways_l0 p hp p 0 (by omega)


/-! ### the program's own: at, sumOf, digitSum, padded -/
theorem at_wl (q : Nat) (hq : q ≤ 13) (s : Int) : impl_at.f (wl q) s = some (W q s) := by
  unfold impl_at.f
  have hl : (wl q).length = 9 * q + 1 := tab_len _ _
  rw [hl, wrap_of (by omega) (by omega), within_eq, Option.bind_some]
  by_cases h : 0 ≤ s ∧ s ≤ ((9 * q + 1 : Nat) : Int) - 1
  · rw [if_pos (by simpa using h), if_pos h.1, if_pos (by omega)]
    obtain ⟨j, rfl⟩ : ∃ j : Nat, s = (j : Int) := ⟨s.toNat, by omega⟩
    congr 1
    exact tab_rd (by omega)
  · rw [if_neg (by simpa using h)]
    congr 1
    by_cases c : s < 0
    · exact (W_neg q s c).symm
    · exact (W_big q s (by omega)).symm

/-! ### the program's digit sum -/
theorem isumOf_loop (t : ByteArray) (hs : t.size ≤ 1099511627776) : ∀ (d i : Nat) (x : Int), i + d = t.size → 0 ≤ x → x ≤ 255 * i →
    Ev (fun k => impl_sumOf.l0 k t x (t.size : Int) (i : Int)) (x + lsum (t.data.toList.drop i)) := by
  intro d
  induction d with
  | zero =>
    intro i x hi _ _
    refine ev_succ ?_
    simp only [impl_sumOf.l0]
    rw [List.drop_eq_nil_of_le (by rw [size_len]; omega)]
    exact ev_neg (by omega) (ev_eq fun _ => by simp [lsum])
  | succ d ih =>
    intro i x hi h0 h1
    refine ev_succ ?_
    simp only [impl_sumOf.l0]
    have hlt : i < t.data.toList.length := by rw [size_len]; omega
    rw [bt_get t i hlt, List.drop_eq_getElem_cons hlt, wrap_nat (by omega)]
    have hd := dv_range (t.data.toList[i])
    have e1 : ((t.data.toList[i].toNat : Int) - 48) % 256 = dv (t.data.toList[i]) := rfl
    rw [e1, wrap_of (by omega) (by omega)]
    refine ev_pos (by omega) (ev_pos (by omega) (ev_pos (by omega) ?_))
    simp only [lsum]
    rw [← Int.add_assoc]
    exact ih (i + 1) _ (by omega) (by omega) (by omega)
theorem isumOf_ev (t : ByteArray) (hs : t.size ≤ 1099511627776) : Ev (fun k => impl_sumOf.f k t) (lsum t.data.toList) := by
  have h := isumOf_loop t hs t.size 0 0 (by omega) (Int.le_refl 0) (by omega)
  simp only [List.drop_zero, Int.zero_add] at h
  exact h
theorem itoa_nat (n : Nat) (h : n ≤ 9223372036854775807) : strconv_Itoa.f (n : Int) = some ⟨(Lib.decDigits n).toArray⟩ := by
  unfold strconv_Itoa.f
  rw [if_pos (by omega), if_pos (by omega), Lib.itoa_nonneg]
theorem nDigits_le (n : Nat) : ∀ k, 0 < k → n < 10 ^ k → Lib.nDigits n ≤ k := by
  induction n using Nat.strongRecOn with
  | _ n ih =>
    intro k hk h
    by_cases c : n < 10
    · rw [Lib.nDigits_small c]; exact hk
    · rw [Lib.nDigits_big c]
      obtain ⟨k, rfl⟩ : ∃ j, k = j + 1 := ⟨k - 1, by omega⟩
      have hk1 : 0 < k := by
        rcases Nat.eq_zero_or_pos k with e | e
        · subst e; simp at h; omega
        · exact e
      have := ih (n / 10) (by omega) k hk1 (by rw [Nat.pow_succ] at h; omega)
      omega
theorem dec_sum (n : Nat) : lsum (Lib.decDigits n) = ds n := by rw [dec_pad]; exact lsum_pad _ n (Lib.lt_pow_nDigits n)
theorem idigitSum_ev (n : Nat) (h : n ≤ 9223372036854775807) : Ev (fun k => impl_digitSum.f k (n : Int)) (ds n) := by
  unfold impl_digitSum.f
  refine ev_bind (itoa_nat n h) ?_
  have hs : (⟨(Lib.decDigits n).toArray⟩ : ByteArray).size ≤ 1099511627776 := by
    rw [mk_size, Lib.decDigits_length]
    have := nDigits_le n 19 (by omega) (by omega)
    omega
  have he := isumOf_ev _ hs
  rw [list_of, dec_sum] at he
  exact Ev.bind he (ev_eq fun _ => rfl)
theorem repeatL_one (c : Nat) : Lib.repeatL [48] c = List.replicate c (48 : UInt8) := by
  induction c with
  | zero => rfl
  | succ c ih => simp [Lib.repeatL, ih, List.replicate_succ]
theorem ipadded_ev (n p : Nat) (hp : 0 < p) (h : n < 10 ^ p) (hp2 : p ≤ 18) : Ev (fun _ => impl_padded.f (n : Int) (p : Int)) ⟨(pad p n).toArray⟩ := by
  refine ev_eq fun _ => ?_
  unfold impl_padded.f
  have hb : n < 10 ^ 18 := Nat.lt_of_lt_of_le h (Nat.pow_le_pow_right (by omega) hp2)
  have hd := nDigits_le n p hp h
  rw [itoa_nat n (by omega), Option.bind_some, mk_size, Lib.decDigits_length]
  have e1 : wrap64 ((p : Int) - (Lib.nDigits n : Int)) = ((p - Lib.nDigits n : Nat) : Int) := by rw [wrap_of (by omega) (by omega)]; omega
  have e2 : mx 0 ((p - Lib.nDigits n : Nat) : Int) = ((p - Lib.nDigits n : Nat) : Int) := by unfold mx; omega
  rw [e1, e2]
  unfold strings_Repeat.f
  have h48 : (⟨#[48]⟩ : ByteArray).size = 1 := rfl
  have hl48 : (⟨#[48]⟩ : ByteArray).data.toList = [48] := rfl
  rw [if_pos (by omega), if_pos (by omega), Int.toNat_natCast, h48, if_pos (by omega), hl48, repeatL_one]
  simp only [Option.bind_some]
  rw [mk_size, List.length_replicate, if_pos (by omega), mk_append]
  congr 3
  rw [dec_pad, ← pad_front _ _ _ (Lib.lt_pow_nDigits n), Nat.sub_add_cancel hd]

/-! ### below, ofSum: counted by cnt -/
theorem cnt_full (p : Nat) (s : Int) : cnt s (10 ^ p) = W p s := by
  have h := cnt_block p s 0
  rw [Nat.mul_zero, Nat.zero_add, Nat.mul_one, ds_small (by omega)] at h
  simp only [cnt] at h
  have : s - ((0 : Nat) : Int) = s := by omega
  rw [this] at h; omega
theorem pdiv (n i : Nat) (hi : i < 13) : n / 10 ^ (13 - (i + 1)) = 10 * (n / 10 ^ (13 - i)) + n / 10 ^ (12 - i) % 10 := by
  rw [show 13 - i = (12 - i) + 1 by omega, show 13 - (i + 1) = 12 - i by omega, Nat.pow_succ, ← Nat.div_div_eq_div_mul]
  omega
theorem ibelow_l1 (n : Nat) (hn : n < 10 ^ 13) (s : Int) (hs0 : 0 ≤ s) (hs : s ≤ 9223372036854775807) (i : Nat) (hi : i < 13) (r : Int)
    (h : Ev (fun k => impl_below.l0 k s ⟨(pad 13 n).toArray⟩ (cnt s (10 ^ (13 - (i + 1)) * (n / 10 ^ (13 - (i + 1))))) 13 (((i + 1 : Nat)) : Int)) r) :
    ∀ (e d : Nat), d + e = n / 10 ^ (12 - i) % 10 →
      Ev (fun k => impl_below.l1 k s ⟨(pad 13 n).toArray⟩ (cnt s (10 ^ (12 - i) * (10 * (n / 10 ^ (13 - i)) + d))) (i : Int) (wl (12 - i)) (48 + (d : Int)) 13 (i : Int)) r := by
  have hsz : (⟨(pad 13 n).toArray⟩ : ByteArray).size = 13 := by rw [mk_size, pad_length]
  have hl : (⟨(pad 13 n).toArray⟩ : ByteArray).data.toList = pad 13 n := list_of _
  have hlt : i < (⟨(pad 13 n).toArray⟩ : ByteArray).data.toList.length := by rw [hl, pad_length]; exact hi
  have ht : n / 10 ^ (12 - i) % 10 < 10 := Nat.mod_lt _ (by omega)
  have hbt : bt ⟨(pad 13 n).toArray⟩ (i : Int) = 48 + ((n / 10 ^ (12 - i) % 10 : Nat) : Int) := by
    rw [bt_get _ i hlt]
    have : (⟨(pad 13 n).toArray⟩ : ByteArray).data.toList[i] = dch (n / 10 ^ (12 - i) % 10) := by
      simp only [hl]
      exact pad_get 13 n i (by rw [pad_length]; exact hi)
    rw [this, dch_nat ht]; omega
  have hpre : (((⟨(pad 13 n).toArray⟩ : ByteArray).extract 0 i).data.toList) = pad i (n / 10 ^ (13 - i)) := by
    rw [take_list _ i (by omega), hl]
    have := pad_take i (13 - i) n
    rw [show i + (13 - i) = 13 by omega] at this
    exact this
  have hq : n / 10 ^ (13 - i) < 10 ^ i := by
    rw [Nat.div_lt_iff_lt_mul (pow10_pos _), ← Nat.pow_add, show i + (13 - i) = 13 by omega]; exact hn
  have hsum : Ev (fun k => impl_sumOf.f k ((⟨(pad 13 n).toArray⟩ : ByteArray).extract 0 i)) (ds (n / 10 ^ (13 - i))) := by
    have he := isumOf_ev ((⟨(pad 13 n).toArray⟩ : ByteArray).extract 0 i) (by rw [← size_len, hpre, pad_length]; omega)
    rw [hpre, lsum_pad i _ hq] at he
    exact he
  have hds0 := ds_nonneg (n / 10 ^ (13 - i))
  have hds1 := ds_le i _ hq
  intro e
  induction e with
  | zero =>
    intro d hd
    refine ev_succ ?_
    simp only [impl_below.l1]
    rw [hsz, hbt]
    refine ev_pos (by omega) (ev_pos (by omega) (ev_neg (by omega) ?_))
    have e1 : (10 : Nat) ^ (12 - i) * (10 * (n / 10 ^ (13 - i)) + d) = 10 ^ (13 - (i + 1)) * (n / 10 ^ (13 - (i + 1))) := by
      rw [pdiv n i hi, show 13 - (i + 1) = 12 - i by omega, show d = n / 10 ^ (12 - i) % 10 by omega]
    rw [e1, wrap_nat (by omega)]
    exact h
  | succ e ih =>
    intro d hd
    refine ev_succ ?_
    simp only [impl_below.l1]
    rw [hsz, hbt]
    refine ev_pos (by omega) (ev_pos (by omega) (ev_pos (by omega) (ev_pos (by omega) ?_)))
    rw [Int.toNat_natCast]
    refine Ev.bind hsum ?_
    have e2 : ((48 + (d : Int)) - 48) % 256 = d := by omega
    have e3 : wrap64 (wrap64 (s - ds (n / 10 ^ (13 - i))) - d) = s - ds (n / 10 ^ (13 - i)) - d := by
      rw [wrap_of (x := s - ds (n / 10 ^ (13 - i))) (by omega) (by omega), wrap_of (by omega) (by omega)]
    rw [e2, e3]
    refine ev_bind (at_wl (12 - i) (by omega) _) ?_
    have hb := cnt_block (12 - i) s (10 * (n / 10 ^ (13 - i)) + d)
    rw [ds_cons _ d (by omega)] at hb
    have e4 : s - (ds (n / 10 ^ (13 - i)) + (d : Int)) = s - ds (n / 10 ^ (13 - i)) - d := by omega
    rw [e4] at hb
    have hc0 := cnt_nonneg s (10 ^ (12 - i) * (10 * (n / 10 ^ (13 - i)) + d))
    have hle : 10 ^ (12 - i) * (10 * (n / 10 ^ (13 - i)) + d + 1) ≤ 10 ^ 13 := by
      have h1 : 10 * (n / 10 ^ (13 - i)) + d + 1 ≤ 10 ^ (i + 1) := by rw [Nat.pow_succ]; omega
      have h2 := Nat.mul_le_mul_left (10 ^ (12 - i)) h1
      rw [← Nat.pow_add, show 12 - i + (i + 1) = 13 by omega] at h2
      exact h2
    have hc1 := cnt_le s (10 ^ (12 - i) * (10 * (n / 10 ^ (13 - i)) + d + 1))
    have e5 : wrap64 (cnt s (10 ^ (12 - i) * (10 * (n / 10 ^ (13 - i)) + d)) + W (12 - i) (s - ds (n / 10 ^ (13 - i)) - d)) = cnt s (10 ^ (12 - i) * (10 * (n / 10 ^ (13 - i)) + (d + 1))) := by
      rw [← hb, ← Nat.add_assoc]
      refine wrap_of ?_ ?_
      · rw [hb]; have := W_nonneg (12 - i) (s - ds (n / 10 ^ (13 - i)) - d); omega
      · omega
    rw [e5]
    have e6 : (48 + (d : Int) + 1) % 256 = 48 + ((d + 1 : Nat) : Int) := by omega
    rw [e6]
    exact ih (d + 1) (by omega)
theorem ibelow_l0 (n : Nat) (hn : n < 10 ^ 13) (s : Int) (hs0 : 0 ≤ s) (hs : s ≤ 9223372036854775807) : ∀ (e i : Nat), i + e = 13 →
    Ev (fun k => impl_below.l0 k s ⟨(pad 13 n).toArray⟩ (cnt s (10 ^ (13 - i) * (n / 10 ^ (13 - i)))) 13 (i : Int)) (cnt s n) := by
  intro e
  induction e with
  | zero =>
    intro i hi
    refine ev_succ ?_
    simp only [impl_below.l0]
    have : i = 13 := by omega
    subst this
    exact ev_neg (by omega) (ev_eq fun _ => by simp)
  | succ e ih =>
    intro i hi
    refine ev_succ ?_
    simp only [impl_below.l0]
    refine ev_pos (by omega) ?_
    have e1 : wrap64 (12 - (i : Int)) = ((12 - i : Nat) : Int) := by rw [wrap_of (by omega) (by omega)]; omega
    rw [e1]
    refine Ev.bind (iways_ev (12 - i) (by omega)) ?_
    have h := ibelow_l1 n hn s hs0 hs i (by omega) (cnt s n) (ih (i + 1) (by omega)) (n / 10 ^ (12 - i) % 10) 0 (by omega)
    have e2 : (10 : Nat) ^ (12 - i) * (10 * (n / 10 ^ (13 - i)) + 0) = 10 ^ (13 - i) * (n / 10 ^ (13 - i)) := by
      rw [Nat.add_zero, ← Nat.mul_assoc, ← Nat.pow_succ, show (12 - i).succ = 13 - i by omega]
    rw [e2] at h
    exact h
theorem ibelow_ev (n : Nat) (hn : n < 10 ^ 13) (s : Int) (hs0 : 0 ≤ s) (hs : s ≤ 9223372036854775807) : Ev (fun k => impl_below.f k (n : Int) s) (cnt s n) := by
  unfold impl_below.f
  refine Ev.bind (ipadded_ev n 13 (by omega) hn (by omega)) ?_
  rw [show ((⟨(pad 13 n).toArray⟩ : ByteArray).size : Int) = 13 by rw [mk_size, pad_length]; rfl]
  have h := ibelow_l0 n hn s hs0 hs 13 0 (by omega)
  have e : n / 10 ^ (13 - 0) = 0 := Nat.div_eq_of_lt hn
  rw [e, Nat.mul_zero] at h
  exact h
theorem div_lt10 (m i : Nat) (hm : m < 10 ^ 13) (hi : i ≤ 13) : m / 10 ^ (13 - i) < 10 ^ i := by
  rw [Nat.div_lt_iff_lt_mul (pow10_pos _), ← Nat.pow_add, show i + (13 - i) = 13 by omega]; exact hm
theorem iofSum_l1 (m : Nat) (hm : m < 10 ^ 13) (i : Nat) (hi : i < 13) (r : Int × Bool)
    (h : Ev (fun k => impl_ofSum.l0 k (ds m - ds (m / 10 ^ (12 - i))) (cnt (ds m) m - cnt (ds m) (10 ^ (12 - i) * (m / 10 ^ (12 - i)))) ((m / 10 ^ (12 - i) : Nat) : Int) ((i + 1 : Nat) : Int)) r) :
    ∀ (e d : Nat), d + e = m / 10 ^ (12 - i) % 10 →
      Ev (fun k => impl_ofSum.l1 k (ds m - ds (m / 10 ^ (13 - i))) (cnt (ds m) m - cnt (ds m) (10 ^ (12 - i) * (10 * (m / 10 ^ (13 - i)) + d))) ((m / 10 ^ (13 - i) : Nat) : Int) (wl (12 - i)) (i : Int) (d : Int)) r := by
  have ht : m / 10 ^ (12 - i) % 10 < 10 := Nat.mod_lt _ (by omega)
  have hq := div_lt10 m i hm (by omega)
  have hds0 := ds_nonneg (m / 10 ^ (13 - i))
  have hds1 := ds_le i _ hq
  have hm0 := ds_nonneg m
  have hm1 := ds_le 13 m hm
  have hqq : m / 10 ^ (13 - i) ≤ 10000000000000 := by have := Nat.div_le_self m (10 ^ (13 - i)); omega
  have hpd := pdiv m i hi
  have hcm := cnt_le (ds m) m
  have hcm0 := cnt_nonneg (ds m) m
  have hdiv : m / 10 ^ (12 - i) = 10 * (m / 10 ^ (13 - i)) + m / 10 ^ (12 - i) % 10 := by rw [← hpd, show 13 - (i + 1) = 12 - i by omega]
  intro e
  induction e with
  | zero =>
    intro d hd
    refine ev_succ ?_
    simp only [impl_ofSum.l1]
    refine ev_pos (by omega) ?_
    have e3 : wrap64 (ds m - ds (m / 10 ^ (13 - i)) - d) = ds m - ds (m / 10 ^ (13 - i)) - d := wrap_of (by omega) (by omega)
    rw [e3]
    refine ev_bind (at_wl (12 - i) (by omega) _) ?_
    have hb := cnt_block (12 - i) (ds m) (10 * (m / 10 ^ (13 - i)) + d)
    rw [ds_cons _ d (by omega)] at hb
    have e4 : ds m - (ds (m / 10 ^ (13 - i)) + (d : Int)) = ds m - ds (m / 10 ^ (13 - i)) - d := by omega
    rw [e4] at hb
    have hlt : m < 10 ^ (12 - i) * (10 * (m / 10 ^ (13 - i)) + d + 1) := by
      have hd1 : 10 * (m / 10 ^ (13 - i)) + d = m / 10 ^ (12 - i) := by omega
      rw [hd1]
      exact Nat.lt_mul_div_succ m (pow10_pos _)
    have hmono := cnt_mono (ds m) (m := m + 1) hlt
    have hhit : cnt (ds m) (m + 1) = cnt (ds m) m + 1 := cnt_hit rfl
    rw [hhit] at hmono
    refine ev_pos (by omega) ?_
    have hd1 : 10 * (m / 10 ^ (13 - i)) + d = m / 10 ^ (12 - i) := by omega
    have e7 := ds_cons (m / 10 ^ (13 - i)) d (by omega)
    rw [hd1] at e7 ⊢
    have e6 : wrap64 (wrap64 (10 * ((m / 10 ^ (13 - i) : Nat) : Int)) + d) = ((m / 10 ^ (12 - i) : Nat) : Int) := by
      rw [wrap_of (x := 10 * ((m / 10 ^ (13 - i) : Nat) : Int)) (by omega) (by omega), wrap_of (by omega) (by omega)]; omega
    have e8 : ds m - ds (m / 10 ^ (13 - i)) - d = ds m - ds (m / 10 ^ (12 - i)) := by omega
    rw [e6, e8, wrap_nat (i := i) (by omega)]
    exact h
  | succ e ih =>
    intro d hd
    refine ev_succ ?_
    simp only [impl_ofSum.l1]
    refine ev_pos (by omega) ?_
    have e3 : wrap64 (ds m - ds (m / 10 ^ (13 - i)) - d) = ds m - ds (m / 10 ^ (13 - i)) - d := wrap_of (by omega) (by omega)
    rw [e3]
    refine ev_bind (at_wl (12 - i) (by omega) _) ?_
    have hb := cnt_block (12 - i) (ds m) (10 * (m / 10 ^ (13 - i)) + d)
    rw [ds_cons _ d (by omega)] at hb
    have e4 : ds m - (ds (m / 10 ^ (13 - i)) + (d : Int)) = ds m - ds (m / 10 ^ (13 - i)) - d := by omega
    rw [e4] at hb
    have hle : 10 ^ (12 - i) * (10 * (m / 10 ^ (13 - i)) + d + 1) ≤ m := by
      refine Nat.le_trans (Nat.mul_le_mul_left _ (show 10 * (m / 10 ^ (13 - i)) + d + 1 ≤ m / 10 ^ (12 - i) by omega)) (Nat.mul_div_le m _)
    have hmono := cnt_mono (ds m) hle
    have hw0 := W_nonneg (12 - i) (ds m - ds (m / 10 ^ (13 - i)) - d)
    have hc0 := cnt_nonneg (ds m) (10 ^ (12 - i) * (10 * (m / 10 ^ (13 - i)) + d))
    refine ev_neg (by omega) ?_
    have e5 : wrap64 (cnt (ds m) m - cnt (ds m) (10 ^ (12 - i) * (10 * (m / 10 ^ (13 - i)) + d)) - W (12 - i) (ds m - ds (m / 10 ^ (13 - i)) - d)) = cnt (ds m) m - cnt (ds m) (10 ^ (12 - i) * (10 * (m / 10 ^ (13 - i)) + (d + 1))) := by
      rw [wrap_of (by omega) (by omega), ← Nat.add_assoc, hb]; omega
    rw [e5, wrap_nat (by omega)]
    exact ih (d + 1) (by omega)
theorem iofSum_l0 (m : Nat) (hm : m < 10 ^ 13) : ∀ (e i : Nat), i + e = 13 →
    Ev (fun k => impl_ofSum.l0 k (ds m - ds (m / 10 ^ (13 - i))) (cnt (ds m) m - cnt (ds m) (10 ^ (13 - i) * (m / 10 ^ (13 - i)))) ((m / 10 ^ (13 - i) : Nat) : Int) (i : Int)) ((m : Int), decide ((m : Int) ≤ 1000000000000)) := by
  intro e
  induction e with
  | zero =>
    intro i hi
    refine ev_succ ?_
    simp only [impl_ofSum.l0]
    have : i = 13 := by omega
    subst this
    exact ev_neg (by omega) (ev_eq fun _ => by simp)
  | succ e ih =>
    intro i hi
    refine ev_succ ?_
    simp only [impl_ofSum.l0]
    refine ev_pos (by omega) ?_
    have e1 : wrap64 (12 - (i : Int)) = ((12 - i : Nat) : Int) := by rw [wrap_of (by omega) (by omega)]; omega
    rw [e1]
    refine Ev.bind (iways_ev (12 - i) (by omega)) ?_
    have hi2 := ih (i + 1) (by omega)
    have e12 : 13 - (i + 1) = 12 - i := by omega
    rw [e12] at hi2
    have h := iofSum_l1 m hm i (by omega) _ hi2 (m / 10 ^ (12 - i) % 10) 0 (by omega)
    have e2 : (10 : Nat) ^ (12 - i) * (10 * (m / 10 ^ (13 - i)) + 0) = 10 ^ (13 - i) * (m / 10 ^ (13 - i)) := by
      rw [Nat.add_zero, ← Nat.mul_assoc, ← Nat.pow_succ, show (12 - i).succ = 13 - i by omega]
    rw [e2] at h
    exact h
/-- the number with a sum before which just so many lie -/
theorem iofSum_hit (m : Nat) (hm : m < 10 ^ 13) : Ev (fun k => impl_ofSum.f k (ds m) (cnt (ds m) m)) ((m : Int), decide ((m : Int) ≤ 1000000000000)) := by
  unfold impl_ofSum.f
  have h0 := cnt_nonneg (ds m) m
  refine ev_neg (by omega) (Ev.bind (iways_ev 13 (by omega)) (ev_bind (at_wl 13 (by omega) _) ?_))
  have hf := cnt_full 13 (ds m)
  have hmono := cnt_mono (ds m) (m := m + 1) (n := 10 ^ 13) hm
  have hhit : cnt (ds m) (m + 1) = cnt (ds m) m + 1 := cnt_hit rfl
  rw [hhit] at hmono
  rw [decide_eq_false (by omega)]
  refine ev_succ ?_
  simp only [impl_ofSum.j0]
  refine ev_neg (by decide) ?_
  have h := iofSum_l0 m hm 13 0 (by omega)
  have e : m / 10 ^ (13 - 0) = 0 := Nat.div_eq_of_lt hm
  rw [e, Nat.mul_zero, ds_small (n := 0) (by omega)] at h
  simp only [cnt] at h
  have e1 : ds m - ((0 : Nat) : Int) = ds m := by omega
  have e2 : cnt (ds m) m - 0 = cnt (ds m) m := by omega
  rw [e1, e2] at h
  exact h
theorem iofSum_neg (s r : Int) (h : r < 0) : Ev (fun k => impl_ofSum.f k s r) (0, false) := by
  unfold impl_ofSum.f
  refine ev_pos h (ev_succ ?_)
  simp only [impl_ofSum.j0]
  exact ev_pos trivial (ev_eq fun _ => rfl)
theorem iofSum_big (s r : Int) (h0 : 0 ≤ r) (h : W 13 s ≤ r) : Ev (fun k => impl_ofSum.f k s r) (0, false) := by
  unfold impl_ofSum.f
  refine ev_neg (by omega) (Ev.bind (iways_ev 13 (by omega)) (ev_bind (at_wl 13 (by omega) _) ?_))
  rw [decide_eq_true (by omega)]
  refine ev_succ ?_
  simp only [impl_ofSum.j0]
  exact ev_pos trivial (ev_eq fun _ => rfl)

/-! ### the reference's own: leFill, leNear -/
theorem most_eq (a b : Int) : spec_l1Most.f a b = some (max a b) := by
  unfold spec_l1Most.f
  by_cases h : a > b
  · rw [if_pos h]; congr 1; omega
  · rw [if_neg h]; congr 1; omega
theorem least_eq (a b : Int) : spec_l1Least.f a b = some (min a b) := by
  unfold spec_l1Least.f
  by_cases h : a < b
  · rw [if_pos h]; congr 1; omega
  · rw [if_neg h]; congr 1; omega
theorem leFill_lo : ∀ (m s n : Nat), s ≤ 9 * m → (n + 1) * 10 ^ m ≤ 10 ^ 13 → Ev (fun k => spec_leFill.l0 k (s : Int) false (n : Int) ((m : Int) - 1)) ((n * 10 ^ m + fillLo m s : Nat) : Int) := by
  intro m
  induction m with
  | zero =>
    intro s n hs hn
    refine ev_succ ?_
    simp only [spec_leFill.l0]
    exact ev_neg (by omega) (ev_eq fun _ => by simp [fillLo])
  | succ m ih =>
    intro s n hs hn
    refine ev_succ ?_
    simp only [spec_leFill.l0]
    have hp := pow10_pos m
    have hn1 : n + 1 ≤ 10 ^ 13 := Nat.le_trans (Nat.le_mul_of_pos_right _ (pow10_pos _)) hn
    have hm : m < 13 := by
      rcases Nat.lt_or_ge m 13 with c | c
      · exact c
      · exfalso
        have : (10 : Nat) ^ 14 ≤ 10 ^ (m + 1) := Nat.pow_le_pow_right (by omega) (by omega)
        have : 1 * 10 ^ (m + 1) ≤ (n + 1) * 10 ^ (m + 1) := Nat.mul_le_mul_right _ (by omega)
        omega
    refine ev_pos (by omega) (ev_bind (most_eq _ _) (ev_neg (by decide) ?_))
    have e1 : max 0 (wrap64 ((s : Int) - wrap64 (9 * (((m + 1 : Nat) : Int) - 1)))) = ((s - 9 * m : Nat) : Int) := by
      rw [wrap_of (x := 9 * (((m + 1 : Nat) : Int) - 1)) (by omega) (by omega), wrap_of (by omega) (by omega)]; omega
    rw [e1]
    have hd : s - 9 * m < 10 := by omega
    have e2 : wrap64 ((s : Int) - ((s - 9 * m : Nat) : Int)) = ((s - (s - 9 * m) : Nat) : Int) := by rw [wrap_of (by omega) (by omega)]; omega
    have e3 : wrap64 (wrap64 (10 * (n : Int)) + ((s - 9 * m : Nat) : Int)) = ((10 * n + (s - 9 * m) : Nat) : Int) := by
      rw [wrap_of (x := 10 * (n : Int)) (by omega) (by omega), wrap_of (by omega) (by omega)]; omega
    have e4 : wrap64 (((m + 1 : Nat) : Int) - 1 - 1) = (m : Int) - 1 := by rw [wrap_of (by omega) (by omega)]; omega
    rw [e2, e3, e4]
    have h := ih (s - (s - 9 * m)) (10 * n + (s - 9 * m)) (by omega) (by
      refine Nat.le_trans (Nat.mul_le_mul_right _ (show 10 * n + (s - 9 * m) + 1 ≤ (n + 1) * 10 by omega)) ?_
      rw [Nat.mul_assoc, Nat.mul_comm 10, ← Nat.pow_succ]; exact hn)
    have e5 : (10 * n + (s - 9 * m)) * 10 ^ m + fillLo m (s - (s - 9 * m)) = n * 10 ^ (m + 1) + fillLo (m + 1) s := by
      simp only [fillLo]
      rw [Nat.add_mul, Nat.pow_succ, Nat.mul_comm 10 n, Nat.mul_assoc, Nat.mul_comm 10 (10 ^ m)]; omega
    rw [e5] at h
    exact h
theorem leFill_hi : ∀ (m s n : Nat), s ≤ 9 * m → (n + 1) * 10 ^ m ≤ 10 ^ 13 → Ev (fun k => spec_leFill.l0 k (s : Int) true (n : Int) ((m : Int) - 1)) ((n * 10 ^ m + fillHi m s : Nat) : Int) := by
  intro m
  induction m with
  | zero =>
    intro s n hs hn
    refine ev_succ ?_
    simp only [spec_leFill.l0]
    exact ev_neg (by omega) (ev_eq fun _ => by simp [fillHi])
  | succ m ih =>
    intro s n hs hn
    refine ev_succ ?_
    simp only [spec_leFill.l0]
    have hp := pow10_pos m
    have hn1 : n + 1 ≤ 10 ^ 13 := Nat.le_trans (Nat.le_mul_of_pos_right _ (pow10_pos _)) hn
    have hm : m < 13 := by
      rcases Nat.lt_or_ge m 13 with c | c
      · exact c
      · exfalso
        have : (10 : Nat) ^ 14 ≤ 10 ^ (m + 1) := Nat.pow_le_pow_right (by omega) (by omega)
        have : 1 * 10 ^ (m + 1) ≤ (n + 1) * 10 ^ (m + 1) := Nat.mul_le_mul_right _ (by omega)
        omega
    refine ev_pos (by omega) (ev_bind (most_eq _ _) (ev_pos trivial (ev_bind (least_eq _ _) ?_)))
    have e1 : min 9 (s : Int) = ((min 9 s : Nat) : Int) := by omega
    rw [e1]
    have e2 : wrap64 ((s : Int) - ((min 9 s : Nat) : Int)) = ((s - min 9 s : Nat) : Int) := by rw [wrap_of (by omega) (by omega)]; omega
    have e3 : wrap64 (wrap64 (10 * (n : Int)) + ((min 9 s : Nat) : Int)) = ((10 * n + min 9 s : Nat) : Int) := by
      rw [wrap_of (x := 10 * (n : Int)) (by omega) (by omega), wrap_of (by omega) (by omega)]; omega
    have e4 : wrap64 (((m + 1 : Nat) : Int) - 1 - 1) = (m : Int) - 1 := by rw [wrap_of (by omega) (by omega)]; omega
    rw [e2, e3, e4]
    have h := ih (s - min 9 s) (10 * n + min 9 s) (by omega) (by
      refine Nat.le_trans (Nat.mul_le_mul_right _ (show 10 * n + min 9 s + 1 ≤ (n + 1) * 10 by omega)) ?_
      rw [Nat.mul_assoc, Nat.mul_comm 10, ← Nat.pow_succ]; exact hn)
    have e5 : (10 * n + min 9 s) * 10 ^ m + fillHi m (s - min 9 s) = n * 10 ^ (m + 1) + fillHi (m + 1) s := by
      simp only [fillHi]
      rw [Nat.add_mul, Nat.pow_succ, Nat.mul_comm 10 n, Nat.mul_assoc, Nat.mul_comm 10 (10 ^ m)]; omega
    rw [e5] at h
    exact h
theorem leFillLo_ev (p s : Nat) (hp : p ≤ 12) (hs : s ≤ 9 * p) : Ev (fun k => spec_leFill.f k (p : Int) (s : Int) false) ((fillLo p s : Nat) : Int) := by
  unfold spec_leFill.f
  have h := leFill_lo p s 0 hs (by rw [Nat.zero_add, Nat.one_mul]; exact Nat.pow_le_pow_right (by omega) (by omega))
  rw [wrap_of (by omega) (by omega)]
  simpa using h
theorem leFillHi_ev (p s : Nat) (hp : p ≤ 12) (hs : s ≤ 9 * p) : Ev (fun k => spec_leFill.f k (p : Int) (s : Int) true) ((fillHi p s : Nat) : Int) := by
  unfold spec_leFill.f
  have h := leFill_hi p s 0 hs (by rw [Nat.zero_add, Nat.one_mul]; exact Nat.pow_le_pow_right (by omega) (by omega))
  rw [wrap_of (by omega) (by omega)]
  simpa using h
theorem ds_mod_succ (n p : Nat) : ds (n % 10 ^ (p + 1)) = ds (n % 10 ^ p) + ((n / 10 ^ p % 10 : Nat) : Int) := by
  rw [Nat.pow_succ, Nat.mod_mul, Nat.add_comm, Nat.mul_comm (10 ^ p), ds_join p _ _ (Nat.mod_lt _ (pow10_pos p)), ds_small (Nat.mod_lt _ (by omega))]; omega
theorem wrap_nn {x : Nat} (h : x ≤ 9223372036854775807) : wrap64 (x : Int) = x := wrap_of (by omega) (by omega)
theorem tdiv_nat (a b : Nat) : Int.tdiv (a : Int) (b : Int) = ((a / b : Nat) : Int) := by
  rw [Int.tdiv_eq_ediv_of_nonneg (by omega)]; rfl
theorem tmod_nat (a b : Nat) : Int.tmod (a : Int) (b : Int) = ((a % b : Nat) : Int) := by
  rw [Int.tmod_eq_emod_of_nonneg (by omega)]; rfl
theorem near_up (q b f : Nat) (hq : q ≤ 10 ^ 12) (h : (q + 1) * b + f < 10 ^ 13) : wrap64 (wrap64 (wrap64 (wrap64 (q : Int) + 1) * (b : Int)) + (f : Int)) = (((q + 1) * b + f : Nat) : Int) := by
  have h1 : (q : Int) + 1 = ((q + 1 : Nat) : Int) := by omega
  have h2 := wrap_nn (x := q) (by omega)
  have h3 := wrap_nn (x := q + 1) (by omega)
  rw [h2, h1, h3, ← Int.natCast_mul]
  generalize (q + 1) * b = x at *
  rw [wrap_nn (x := x) (by omega), ← Int.natCast_add]
  exact wrap_nn (by omega)
theorem near_dn (q b f : Nat) (hq : q ≤ 10 ^ 12) (hq1 : 1 ≤ q) (h : (q - 1) * b + f < 10 ^ 13) : wrap64 (wrap64 (wrap64 (wrap64 (q : Int) - 1) * (b : Int)) + (f : Int)) = (((q - 1) * b + f : Nat) : Int) := by
  have h1 : (q : Int) - 1 = ((q - 1 : Nat) : Int) := by omega
  have h2 := wrap_nn (x := q) (by omega)
  have h3 := wrap_nn (x := q - 1) (by omega)
  rw [h2, h1, h3, ← Int.natCast_mul]
  generalize (q - 1) * b = x at *
  rw [wrap_nn (x := x) (by omega), ← Int.natCast_add]
  exact wrap_nn (by omega)
/-- what leNear answers -/
def NextOut (n : Nat) (o : Int × Bool) : Prop := (o = (0, false) ∧ ∀ y, n < y → y < 10 ^ 13 → ds y ≠ ds n) ∨ ∃ r : Nat, o = ((r : Int), true) ∧ n < r ∧ r < 10 ^ 13 ∧ ds r = ds n ∧ ∀ x, n < x → x < r → ds x ≠ ds n
def LastOut (n : Nat) (o : Int × Bool) : Prop := (o = (0, false) ∧ ∀ y, y < n → ds y ≠ ds n) ∨ ∃ r : Nat, o = ((r : Int), true) ∧ r < n ∧ ds r = ds n ∧ ∀ x, r < x → x < n → ds x ≠ ds n
theorem digit_eq (n p : Nat) (hn : n ≤ 10 ^ 12) : Int.tmod (wrap64 (Int.tdiv (n : Int) ((10 ^ p : Nat) : Int))) 10 = ((n / 10 ^ p % 10 : Nat) : Int) := by
  have := Nat.div_le_self n (10 ^ p)
  rw [tdiv_nat, wrap_nn (by omega)]
  exact tmod_nat _ 10
theorem leNear_next (n : Nat) (hn : n ≤ 10 ^ 12) : ∀ (e p : Nat), p + e = 13 → (∀ j, j < p → n / 10 ^ j % 10 = 9 ∨ ds (n % 10 ^ j) = 0) →
    ∃ o, Ev (fun k => spec_leNear.l0 k (n : Int) true (ds (n % 10 ^ p)) ((10 ^ p : Nat) : Int) (p : Int)) o ∧ NextOut n o := by
  intro e
  induction e with
  | zero =>
    intro p hp hf
    have : p = 13 := by omega
    subst this
    refine ⟨(0, false), ?_, .inl ⟨rfl, fun y h1 h2 => ?_⟩⟩
    · refine ev_succ ?_
      simp only [spec_leNear.l0]
      exact ev_neg (by omega) (ev_eq fun _ => rfl)
    · have h := no_next n 13 hf y
      rw [Nat.mod_eq_of_lt (show n < 10 ^ 13 by omega)] at h
      exact h h1 h2
  | succ e ih =>
    intro p hp hf
    have hp12 : p ≤ 12 := by omega
    have hpp := pow10_pos p
    have hple : (10 : Nat) ^ p ≤ 10 ^ 12 := Nat.pow_le_pow_right (by omega) hp12
    have hd10 : n / 10 ^ p % 10 < 10 := Nat.mod_lt _ (by omega)
    have hr0 := ds_nonneg (n % 10 ^ p)
    have hr1 := ds_le p (n % 10 ^ p) (Nat.mod_lt _ hpp)
    have hdl := Nat.div_le_self n (10 ^ p)
    by_cases c : n / 10 ^ p % 10 < 9 ∧ 0 < ds (n % 10 ^ p)
    · obtain ⟨s, hs⟩ : ∃ s : Nat, ds (n % 10 ^ p) = (s : Int) + 1 := ⟨(ds (n % 10 ^ p) - 1).toNat, by omega⟩
      obtain ⟨g1, g2, g3, g4⟩ := next_spec n p s hs c.1 hf
      have hbig : (n / 10 ^ p + 1) * 10 ^ p + fillLo p s < 10 ^ 13 := by
        have h1 : (n / 10 ^ p + 1) * 10 ^ p ≤ 2 * 10 ^ 12 := by
          rw [Nat.add_mul]; have := Nat.div_mul_le_self n (10 ^ p); omega
        omega
      refine ⟨((((n / 10 ^ p + 1) * 10 ^ p + fillLo p s : Nat) : Int), true), ?_, .inr ⟨_, rfl, g1, hbig, g2, g3⟩⟩
      have hrr := near_up (n / 10 ^ p) (10 ^ p) (fillLo p s) (Nat.le_trans hdl hn) hbig
      clear g1 g2 g3 g4 hbig hf
      refine ev_succ ?_
      simp only [spec_leNear.l0]
      rw [digit_eq n p hn]
      refine ev_pos (by omega) (ev_neg (by omega) (ev_pos trivial (ev_pos (by omega) ?_)))
      rw [decide_eq_true (by omega)]
      refine ev_succ ?_
      simp only [spec_leNear.j1]
      refine ev_pos trivial (ev_neg (by omega) ?_)
      have e1 : wrap64 (ds (n % 10 ^ p) - 1) = (s : Int) := by rw [wrap_of (by omega) (by omega)]; omega
      rw [e1]
      refine Ev.bind (leFillLo_ev p s hp12 (by omega)) (ev_eq fun _ => ?_)
      rw [tdiv_nat, hrr]
    · obtain ⟨o, ho, hO⟩ := ih (p + 1) (by omega) (fun j hj => by
        by_cases cj : j < p
        · exact hf j cj
        · have : j = p := by omega
          subst this
          by_cases c9 : n / 10 ^ j % 10 < 9
          · right; by_cases cz : 0 < ds (n % 10 ^ j)
            · exact absurd ⟨c9, cz⟩ c
            · omega
          · left; omega)
      refine ⟨o, ?_, hO⟩
      refine ev_succ ?_
      simp only [spec_leNear.l0]
      rw [digit_eq n p hn]
      refine ev_pos (by omega) (ev_neg (by omega) (ev_pos trivial ?_))
      have e1 : wrap64 (ds (n % 10 ^ p) + ((n / 10 ^ p % 10 : Nat) : Int)) = ds (n % 10 ^ (p + 1)) := by rw [ds_mod_succ, wrap_of (by omega) (by omega)]
      have e2 : wrap64 (((10 ^ p : Nat) : Int) * 10) = ((10 ^ (p + 1) : Nat) : Int) := by rw [Nat.pow_succ, wrap_of (by omega) (by omega)]; omega
      have e3 : wrap64 ((p : Int) + 1) = ((p + 1 : Nat) : Int) := wrap_nat (by omega)
      have key : Ev (fun k => spec_leNear.j1 k (n : Int) true (ds (n % 10 ^ p)) ((10 ^ p : Nat) : Int) (p : Int) ((n / 10 ^ p % 10 : Nat) : Int) false) o := by
        refine ev_succ ?_
        simp only [spec_leNear.j1]
        refine ev_neg (by decide) (ev_pos trivial ?_)
        rw [e1, e2, e3]
        exact ho
      by_cases c9 : n / 10 ^ p % 10 < 9
      · rw [decide_eq_false (show ¬ ds (n % 10 ^ p) > 0 from fun h => c ⟨c9, h⟩)]
        exact ev_pos (by omega) key
      · exact ev_neg (by omega) key
theorem leNear_last (n : Nat) (hn : n ≤ 10 ^ 12) : ∀ (e p : Nat), p + e = 13 → (∀ j, j < p → n / 10 ^ j % 10 = 0 ∨ ds (n % 10 ^ j) = 9 * j) →
    ∃ o, Ev (fun k => spec_leNear.l0 k (n : Int) false (ds (n % 10 ^ p)) ((10 ^ p : Nat) : Int) (p : Int)) o ∧ LastOut n o := by
  intro e
  induction e with
  | zero =>
    intro p hp hf
    have : p = 13 := by omega
    subst this
    refine ⟨(0, false), ?_, .inl ⟨rfl, fun y h1 => ?_⟩⟩
    · refine ev_succ ?_
      simp only [spec_leNear.l0]
      exact ev_neg (by omega) (ev_eq fun _ => rfl)
    · have h := no_last n 13 hf y
      rw [Nat.mod_eq_of_lt (show n < 10 ^ 13 by omega)] at h
      exact h h1
  | succ e ih =>
    intro p hp hf
    have hp12 : p ≤ 12 := by omega
    have e9 : wrap64 (9 * (p : Int)) = 9 * (p : Int) := wrap_of (by omega) (by omega)
    have e3 : wrap64 ((p : Int) + 1) = ((p + 1 : Nat) : Int) := wrap_nat (by omega)
    have hpp := pow10_pos p
    have hple : (10 : Nat) ^ p ≤ 10 ^ 12 := Nat.pow_le_pow_right (by omega) hp12
    have hd10 : n / 10 ^ p % 10 < 10 := Nat.mod_lt _ (by omega)
    have hr0 := ds_nonneg (n % 10 ^ p)
    have hr1 := ds_le p (n % 10 ^ p) (Nat.mod_lt _ hpp)
    have hdl := Nat.div_le_self n (10 ^ p)
    by_cases c : 0 < n / 10 ^ p % 10 ∧ ds (n % 10 ^ p) < 9 * p
    · obtain ⟨s, hs⟩ : ∃ s : Nat, ds (n % 10 ^ p) = (s : Int) - 1 := ⟨(ds (n % 10 ^ p) + 1).toNat, by omega⟩
      obtain ⟨g1, g2, g3, g4⟩ := last_spec n p s hs (by omega) c.1 hf
      have hq1 : 1 ≤ n / 10 ^ p := Nat.le_trans c.1 (Nat.mod_le _ _)
      refine ⟨((((n / 10 ^ p - 1) * 10 ^ p + fillHi p s : Nat) : Int), true), ?_, .inr ⟨_, rfl, g1, g2, g3⟩⟩
      have hbig : (n / 10 ^ p - 1) * 10 ^ p + fillHi p s < 10 ^ 13 := Nat.lt_of_lt_of_le g1 (Nat.le_trans hn (by omega))
      have hrr := near_dn (n / 10 ^ p) (10 ^ p) (fillHi p s) (Nat.le_trans hdl hn) hq1 hbig
      clear g1 g2 g3 g4 hbig hf
      refine ev_succ ?_
      simp only [spec_leNear.l0]
      rw [digit_eq n p hn]
      refine ev_pos (by omega) (ev_neg (by omega) (ev_neg (by decide) ?_))
      refine ev_succ ?_
      simp only [spec_leNear.j1]
      rw [e9]
      refine ev_neg (by decide) (ev_neg (by decide) (ev_pos (by omega) (ev_pos (by omega) (ev_neg (by omega) ?_))))
      have e1 : wrap64 (ds (n % 10 ^ p) + 1) = (s : Int) := by rw [wrap_of (by omega) (by omega)]; omega
      rw [e1]
      refine Ev.bind (leFillHi_ev p s hp12 (by omega)) (ev_eq fun _ => ?_)
      rw [tdiv_nat, hrr]
    · obtain ⟨o, ho, hO⟩ := ih (p + 1) (by omega) (fun j hj => by
        by_cases cj : j < p
        · exact hf j cj
        · have : j = p := by omega
          subst this
          by_cases c9 : 0 < n / 10 ^ j % 10
          · right; by_cases cz : ds (n % 10 ^ j) < 9 * j
            · exact absurd ⟨c9, cz⟩ c
            · omega
          · left; omega)
      refine ⟨o, ?_, hO⟩
      refine ev_succ ?_
      simp only [spec_leNear.l0]
      rw [digit_eq n p hn]
      refine ev_pos (by omega) (ev_neg (by omega) (ev_neg (by decide) ?_))
      have e1 : wrap64 (ds (n % 10 ^ p) + ((n / 10 ^ p % 10 : Nat) : Int)) = ds (n % 10 ^ (p + 1)) := by rw [ds_mod_succ, wrap_of (by omega) (by omega)]
      have e2 : wrap64 (((10 ^ p : Nat) : Int) * 10) = ((10 ^ (p + 1) : Nat) : Int) := by rw [Nat.pow_succ, wrap_of (by omega) (by omega)]; omega
      refine ev_succ ?_
      simp only [spec_leNear.j1]
      rw [e1, e2, e3, e9]
      refine ev_neg (by decide) (ev_neg (by decide) ?_)
      by_cases c9 : 0 < n / 10 ^ p % 10
      · exact ev_pos (by omega) (ev_neg (fun h => c ⟨c9, h⟩) ho)
      · exact ev_neg (by omega) ho

/-! ### lists of digits that do not fall: sums, products, numbers -/
def asc : Nat → List Nat → Prop
  | _, [] => True
  | lo, d :: l => lo ≤ d ∧ d ≤ 9 ∧ asc d l
def lsN : List Nat → Nat
  | [] => 0
  | d :: l => d + lsN l
def lpN : List Nat → Nat
  | [] => 1
  | d :: l => d * lpN l
def numL (n : Nat) : List Nat → Nat
  | [] => n
  | d :: l => numL (10 * n + d) l
theorem numL_eq (l : List Nat) : ∀ n, numL n l = n * 10 ^ l.length + numL 0 l := by
  induction l with
  | nil => intro n; simp [numL]
  | cons d l ih =>
    intro n
    simp only [numL, List.length_cons]
    rw [ih (10 * n + d), ih (10 * 0 + d), Nat.pow_succ, Nat.add_mul, Nat.add_mul]
    rw [show 10 * n * 10 ^ l.length = n * (10 ^ l.length * 10) by rw [Nat.mul_comm 10 n, Nat.mul_assoc, Nat.mul_comm 10]]
    omega
theorem numL_lt (l : List Nat) : ∀ lo, asc lo l → numL 0 l < 10 ^ l.length := by
  induction l with
  | nil => intro lo _; simp [numL]
  | cons d l ih =>
    intro lo h
    simp only [numL, List.length_cons]
    have h1 := ih d h.2.2
    have h2 := h.2.1
    rw [numL_eq, Nat.pow_succ]
    have h3 := Nat.mul_le_mul_right (10 ^ l.length) (show 10 * 0 + d ≤ 9 by omega)
    omega
theorem asc_sum (l : List Nat) : ∀ lo, asc lo l → lo * l.length ≤ lsN l := by
  induction l with
  | nil => intro lo _; simp [lsN]
  | cons d l ih =>
    intro lo h
    have h1 := ih d h.2.2
    have h2 := Nat.mul_le_mul_right l.length h.1
    simp only [lsN, List.length_cons, Nat.mul_succ]
    have := h.1
    omega
theorem asc_mono {l : List Nat} {lo lo' : Nat} (h : asc lo l) (hl : lo' ≤ lo) : asc lo' l := by
  cases l with
  | nil => trivial
  | cons d l => exact ⟨Nat.le_trans hl h.1, h.2⟩
/-- a list that goes on with a number: so many digits, a sum, a product -/
def goesOn (lo m s p : Nat) (l : List Nat) : Prop := asc lo l ∧ l.length = m ∧ lsN l = s ∧ lpN l = p
/-- the least such list's number, or none -/
def BB (n lo m s p : Nat) (o : Int × Bool) : Prop :=
  (∃ l, goesOn lo m s p l ∧ (∀ l', goesOn lo m s p l' → numL n l ≤ numL n l') ∧ o = ((numL n l : Int), true)) ∨ ((∀ l', ¬ goesOn lo m s p l') ∧ o.2 = false)
theorem w_10nd (n d : Nat) (hn : n < 1000000000000) (hd : d < 10) : wrap64 (wrap64 (10 * (n : Int)) + (d : Int)) = ((10 * n + d : Nat) : Int) := by
  rw [wrap_of (x := 10 * (n : Int)) (by omega) (by omega), wrap_of (by omega) (by omega)]; omega
theorem w_sub1 (m : Nat) (hm : m ≤ 12) : wrap64 (((m + 1 : Nat) : Int) - 1) = (m : Int) := by rw [wrap_of (by omega) (by omega)]; omega
theorem w_subd (s d : Nat) (hs : s ≤ 108) (hd : d ≤ s) : wrap64 ((s : Int) - (d : Int)) = ((s - d : Nat) : Int) := by rw [wrap_of (by omega) (by omega)]; omega
theorem w_divd (p d q : Nat) (hq : q = p / d) (hp : q ≤ 1000000000000) : wrap64 (Int.tdiv (p : Int) (d : Int)) = (q : Int) := by
  rw [Int.tdiv_eq_ediv_of_nonneg (Int.natCast_nonneg p), ← Int.natCast_ediv, ← hq]
  exact wrap_of (by omega) (by omega)
theorem w_modd (p d : Nat) : Int.tmod (p : Int) (d : Int) = ((p % d : Nat) : Int) := by rw [Int.tmod_eq_emod_of_nonneg (Int.natCast_nonneg p), Int.natCast_emod]
theorem pdiv_facts (p d : Nat) (hp : 1 ≤ p) (c : p % d = 0) : d * (p / d) = p ∧ 1 ≤ p / d ∧ p / d ≤ p := by
  have h1 := Nat.div_add_mod p d
  rw [c, Nat.add_zero] at h1
  refine ⟨h1, ?_, Nat.div_le_self _ _⟩
  rcases Nat.eq_zero_or_pos (p / d) with z | z
  · rw [z, Nat.mul_zero] at h1; omega
  · exact z
theorem w_mul (d m : Nat) (h : d * m ≤ 200) : wrap64 ((d : Int) * (m : Int)) = ((d * m : Nat) : Int) := by
  rw [← Int.natCast_mul]; generalize d * m = x at *; exact wrap_of (by omega) (by omega)
theorem pow_step (n d m : Nat) (hm : m + 1 ≤ 12) (hn : n < 10 ^ (12 - (m + 1))) (hd : d < 10) : 10 * n + d < 10 ^ (12 - m) ∧ n < 1000000000000 := by
  have e : 10 ^ (12 - m) = 10 ^ (12 - (m + 1)) * 10 := by rw [← Nat.pow_succ, show (12 - (m + 1)).succ = 12 - m by omega]
  have h1 : (10 : Nat) ^ (12 - (m + 1)) ≤ 10 ^ 12 := Nat.pow_le_pow_right (by omega) (by omega)
  have h2 : (10 : Nat) ^ 12 = 1000000000000 := by decide
  rw [e]; rw [h2] at h1
  generalize (10 : Nat) ^ (12 - (m + 1)) = z at *
  omega
theorem d_ne (d : Nat) (h1 : 1 ≤ d) : ¬ (d : Int) = 0 := by omega
theorem numL_less (n d x z a b : Nat) (h : d < x) (ha : a < z) : (10 * n + d) * z + a ≤ (10 * n + x) * z + b := by
  have h1 := Nat.mul_le_mul_right z (show 10 * n + d + 1 ≤ 10 * n + x by omega)
  rw [Nat.add_mul (10 * n + d) 1, Nat.one_mul] at h1
  generalize (10 * n + d) * z = u at *
  generalize (10 * n + x) * z = v at *
  omega
theorem lsN_tail {d s : Nat} {l : List Nat} (h : lsN (d :: l) = s) : lsN l = s - d := by rw [← h]; simp [lsN]
theorem lpN_tail {d q p : Nat} {l : List Nat} (h1 : 1 ≤ d) (hpd : d * q = p) (h : lpN (d :: l) = p) : lpN l = q := by
  rw [← hpd] at h; exact Nat.eq_of_mul_eq_mul_left h1 h
theorem len_tail {d m : Nat} {l : List Nat} (h : (d :: l).length = m + 1) : l.length = m := by simpa using h
theorem sleB (m : Nat) : ∀ (n lo s p : Nat), m ≤ 12 → n < 10 ^ (12 - m) → 1 ≤ lo → s ≤ 108 → 1 ≤ p → p ≤ 1000000000000 →
    ∃ o, BB n lo m s p o ∧ Ev (fun k => spec_leBoth.f k (n : Int) (m : Int) (lo : Int) (s : Int) (p : Int)) o := by
  induction m with
  | zero =>
    intro n lo s p _ hn hlo hs hp _
    by_cases c : s = 0
    · by_cases c1 : p = 1
      · refine ⟨((n : Int), true), .inl ⟨[], ⟨trivial, rfl, c.symm, c1.symm⟩, fun l' h => ?_, rfl⟩, ev_succ ?_⟩
        · have : l' = [] := List.eq_nil_of_length_eq_zero h.2.1
          subst this; exact Nat.le_refl _
        · simp only [spec_leBoth.f]
          exact ev_pos rfl (ev_pos (by omega) (ev_eq fun _ => by rw [c1]; rfl))
      · refine ⟨((n : Int), false), .inr ⟨fun l' h => ?_, rfl⟩, ev_succ ?_⟩
        · have : l' = [] := List.eq_nil_of_length_eq_zero h.2.1
          subst this; exact c1 h.2.2.2.symm
        · simp only [spec_leBoth.f]
          have e : ((p : Int) == 1) = false := by rw [beq_eq_false_iff_ne]; omega
          exact ev_pos rfl (ev_pos (by omega) (ev_eq fun _ => by rw [e]))
    · refine ⟨((n : Int), false), .inr ⟨fun l' h => ?_, rfl⟩, ev_succ ?_⟩
      · have : l' = [] := List.eq_nil_of_length_eq_zero h.2.1
        subst this; exact c h.2.2.1.symm
      · simp only [spec_leBoth.f]
        exact ev_pos rfl (ev_neg (by omega) (ev_eq fun _ => rfl))
  | succ m ih =>
    intro n lo s p hm hn hlo hs hp hp2
    have loop : ∀ (e d : Nat), d + e = 10 ∨ (e = 0 ∧ 10 ≤ d) → 1 ≤ d → ∃ o, BB n d (m + 1) s p o ∧ Ev (fun k => spec_leBoth.l0 k (n : Int) ((m + 1 : Nat) : Int) (s : Int) (p : Int) (d : Int)) o := by
      intro e
      induction e with
      | zero =>
        intro d hd h1
        refine ⟨(0, false), .inr ⟨fun l' h => ?_, rfl⟩, ev_succ ?_⟩
        · cases l' with
          | nil => simp [goesOn] at h
          | cons x l => have := h.1.1; have := h.1.2.1; omega
        · simp only [spec_leBoth.l0]
          refine ev_neg (by omega) (ev_succ ?_)
          simp only [spec_leBoth.j1]
          exact ev_neg (by decide) (ev_eq fun _ => rfl)
      | succ e ihe =>
        intro d hd h1
        have hd10 : d < 10 := by omega
        by_cases c : d * (m + 1) ≤ s
        · obtain ⟨o2, ho2, he2⟩ := ihe (d + 1) (by omega) (by omega)
          have next : ∀ l', goesOn d (m + 1) s p l' → (∀ l, l' ≠ d :: l) → goesOn (d + 1) (m + 1) s p l' := by
            intro l' h hne
            cases l' with
            | nil => simp [goesOn] at h
            | cons x l =>
              have hx := h.1.1
              by_cases q : x = d
              · exact absurd (by rw [q]) (hne l)
              · exact ⟨⟨by omega, h.1.2⟩, h.2⟩
          have wr := w_mul d (m + 1) (Nat.le_trans c (Nat.le_trans hs (by decide)))
          have e1 := w_modd p d
          by_cases c2 : p % d = 0
          · obtain ⟨hpd, hq1, hq3⟩ := pdiv_facts p d hp c2
            have hq2 := Nat.le_trans hq3 hp2
            have hds : d ≤ s := Nat.le_trans (Nat.le_mul_of_pos_right d (Nat.succ_pos m)) c
            obtain ⟨hnn, hnb⟩ := pow_step n d m hm hn hd10
            obtain ⟨q, hq⟩ : ∃ q, q = p / d := ⟨_, rfl⟩
            rw [← hq] at hpd hq1 hq2 hq3
            obtain ⟨o1, ho1, he1⟩ := ih (10 * n + d) d (s - d) q (Nat.le_of_succ_le hm) hnn h1 (Nat.le_trans (Nat.sub_le _ _) hs) hq1 hq2
            have w1 := w_10nd n d hnb hd10
            have w2 := w_sub1 m (Nat.le_of_succ_le hm)
            have w3 := w_subd s d hs hds
            have w4 := w_divd p d q hq hq2
            have w5 : wrap64 ((d : Int) + 1) = ((d + 1 : Nat) : Int) := wrap_nat (Nat.lt_trans hd10 (by decide))
            have w6 : ((d * (m + 1) : Nat) : Int) ≤ (s : Int) := Int.ofNat_le.mpr c
            have w7 : (d : Int) < 10 := Int.ofNat_lt.mpr hd10
            have w8 := d_ne d h1
            have w9 : ((p % d : Nat) : Int) = 0 := by rw [c2]; rfl
            have step : ∀ o, Ev (fun k => if o1.2 = true then some (o1.1, true) else spec_leBoth.l0 k (n : Int) ((m + 1 : Nat) : Int) (s : Int) (p : Int) ((d + 1 : Nat) : Int)) o →
                Ev (fun k => spec_leBoth.l0 k (n : Int) ((m + 1 : Nat) : Int) (s : Int) (p : Int) (d : Int)) o := by
              intro o h
              refine ev_succ ?_
              simp only [spec_leBoth.l0]
              rw [wr, decide_eq_true w6]
              refine ev_pos w7 (ev_succ ?_)
              simp only [spec_leBoth.j1]
              rw [e1, w1, w2, w3, w4, w5]
              exact ev_pos trivial (ev_neg w8 (ev_pos w9 (Ev.bind he1 h)))
            rcases ho1 with ⟨l, hl, hmin, rfl⟩ | ⟨hno, hf⟩
            · refine ⟨((numL n (d :: l) : Int), true), .inl ⟨d :: l, ⟨⟨Nat.le_refl _, Nat.le_of_lt_succ hd10, hl.1⟩, by rw [List.length_cons, hl.2.1], ?_, by simp only [lpN]; rw [hl.2.2.2, hpd]⟩, fun l' h => ?_, rfl⟩, step _ (ev_pos rfl (ev_eq fun _ => rfl))⟩
              · simp only [lsN]; rw [hl.2.2.1]; exact Nat.add_sub_cancel' hds
              cases l' with
              | nil => simp [goesOn] at h
              | cons x l2 =>
                have hx := h.1.1
                have hlen := len_tail h.2.1
                by_cases qx : x = d
                · subst qx
                  exact hmin l2 ⟨h.1.2.2, hlen, lsN_tail h.2.2.1, lpN_tail h1 hpd h.2.2.2⟩
                · simp only [numL]
                  have b1 := numL_lt l d hl.1
                  rw [hl.2.1] at b1
                  rw [numL_eq l, numL_eq l2, hl.2.1, hlen]
                  exact numL_less n d x (10 ^ m) _ _ (Nat.lt_of_le_of_ne hx (Ne.symm qx)) b1
            · refine ⟨o2, ?_, step _ (ev_neg (by rw [hf]; decide) he2)⟩
              have hsub : ∀ l', goesOn d (m + 1) s p l' → goesOn (d + 1) (m + 1) s p l' := fun l' h => next l' h (fun l e => by
                subst e
                exact hno l ⟨h.1.2.2, len_tail h.2.1, lsN_tail h.2.2.1, lpN_tail h1 hpd h.2.2.2⟩)
              rcases ho2 with ⟨l, hl, hmin, e⟩ | ⟨hno2, hf2⟩
              · exact .inl ⟨l, ⟨asc_mono hl.1 (Nat.le_succ d), hl.2⟩, fun l' h => hmin l' (hsub l' h), e⟩
              · exact .inr ⟨fun l' h => hno2 l' (hsub l' h), hf2⟩
          · refine ⟨o2, ?_, ev_succ ?_⟩
            · have hsub : ∀ l', goesOn d (m + 1) s p l' → goesOn (d + 1) (m + 1) s p l' := fun l' h => next l' h (fun l e => by
                subst e
                have := h.2.2.2
                simp only [lpN] at this
                exact c2 (by rw [← this]; exact Nat.mul_mod_right _ _))
              rcases ho2 with ⟨l, hl, hmin, e⟩ | ⟨hno2, hf2⟩
              · exact .inl ⟨l, ⟨asc_mono hl.1 (by omega), hl.2⟩, fun l' h => hmin l' (hsub l' h), e⟩
              · exact .inr ⟨fun l' h => hno2 l' (hsub l' h), hf2⟩
            · simp only [spec_leBoth.l0]
              have w5 : wrap64 ((d : Int) + 1) = ((d + 1 : Nat) : Int) := wrap_nat (Nat.lt_trans hd10 (by decide))
              rw [wr, decide_eq_true (Int.ofNat_le.mpr c)]
              refine ev_pos (Int.ofNat_lt.mpr hd10) (ev_succ ?_)
              simp only [spec_leBoth.j1]
              rw [e1, w5]
              exact ev_pos trivial (ev_neg (d_ne d h1) (ev_neg (fun z => c2 (Int.natCast_eq_zero.mp z)) he2))
        · refine ⟨(0, false), .inr ⟨fun l' h => ?_, rfl⟩, ev_succ ?_⟩
          · have := asc_sum l' d h.1
            rw [h.2.1, h.2.2.1] at this; omega
          · have wr := w_mul d (m + 1) (Nat.le_trans (Nat.mul_le_mul (Nat.le_of_lt_succ hd10) hm) (by decide))
            simp only [spec_leBoth.l0]
            rw [wr, decide_eq_false (fun z => c (Int.ofNat_le.mp z))]
            refine ev_pos (Int.ofNat_lt.mpr hd10) (ev_succ ?_)
            simp only [spec_leBoth.j1]
            exact ev_neg (by decide) (ev_eq fun _ => rfl)
    obtain ⟨o, ho, he⟩ := loop (10 - lo) lo (by omega) hlo
    refine ⟨o, ho, ev_succ ?_⟩
    simp only [spec_leBoth.f]
    exact ev_neg (by omega) he
/-- the lists that count: one to twelve digits that do not fall, with a sum and a product -/
def cand (s p : Nat) (l : List Nat) : Prop := asc 1 l ∧ 1 ≤ l.length ∧ l.length ≤ 12 ∧ lsN l = s ∧ lpN l = p
/-- the least of them, or none -/
def leastOf (s p : Nat) (o : Int × Bool) : Prop :=
  (∃ l, cand s p l ∧ (∀ l', cand s p l' → numL 0 l ≤ numL 0 l') ∧ o = ((numL 0 l : Int), true)) ∨ ((∀ l', ¬ cand s p l') ∧ o = (0, false))
theorem leastOf_uniq {s p : Nat} {o o' : Int × Bool} (h : leastOf s p o) (g : leastOf s p o') : o = o' := by
  rcases h with ⟨l, hl, hm, rfl⟩ | ⟨hno, rfl⟩ <;> rcases g with ⟨l', hl', hm', rfl⟩ | ⟨hno', rfl⟩
  · have h1 := hm l' hl'
    have h2 := hm' l hl
    rw [Nat.le_antisymm h1 h2]
  · exact absurd hl (hno' l)
  · exact absurd hl' (hno l')
  · rfl
theorem numL_ge (l : List Nat) (h : asc 1 l) (hp : 1 ≤ l.length) : 10 ^ (l.length - 1) ≤ numL 0 l := by
  cases l with
  | nil => simp at hp
  | cons d l =>
    have hd := h.1
    simp only [numL, List.length_cons, Nat.add_sub_cancel]
    rw [numL_eq]
    have := Nat.mul_le_mul_right (10 ^ l.length) (show 1 ≤ 10 * 0 + d by omega)
    rw [Nat.one_mul] at this
    exact Nat.le_trans this (Nat.le_add_right _ _)
theorem sLB_loop (s p : Nat) (hs : s ≤ 108) (hp : 1 ≤ p) (hp2 : p ≤ 1000000000000) : ∀ (e j : Nat), j + e = 13 → 1 ≤ j → (∀ l, cand s p l → j ≤ l.length) →
    ∃ o, leastOf s p o ∧ Ev (fun k => spec_LeastBoth.l0 k (s : Int) (p : Int) (j : Int)) o := by
  intro e
  induction e with
  | zero =>
    intro j hj h1 hno
    refine ⟨(0, false), .inr ⟨fun l h => by have h3 := hno l h; have h4 := h.2.2.1; omega, rfl⟩, ev_succ ?_⟩
    simp only [spec_LeastBoth.l0]
    exact ev_neg (by omega) (ev_eq fun _ => rfl)
  | succ e ih =>
    intro j hj h1 hno
    obtain ⟨o1, ho1, he1⟩ := sleB j 0 1 s p (by omega) (Nat.pow_pos (by omega)) (Nat.le_refl _) hs hp hp2
    have step : ∀ o, Ev (fun k => if o1.2 = true then some (o1.1, true) else spec_LeastBoth.l0 k (s : Int) (p : Int) ((j + 1 : Nat) : Int)) o → Ev (fun k => spec_LeastBoth.l0 k (s : Int) (p : Int) (j : Int)) o := by
      intro o h
      refine ev_succ ?_
      simp only [spec_LeastBoth.l0]
      rw [wrap_nat (by omega)]
      exact ev_pos (by omega) (Ev.bind he1 h)
    rcases ho1 with ⟨l, hl, hmin, rfl⟩ | ⟨hnone, hf⟩
    · refine ⟨((numL 0 l : Int), true), .inl ⟨l, ⟨hl.1, by rw [hl.2.1]; exact h1, by rw [hl.2.1]; omega, hl.2.2⟩, fun l' h => ?_, rfl⟩, step _ (ev_pos rfl (ev_eq fun _ => rfl))⟩
      have hj' := hno l' h
      by_cases c : l'.length = j
      · exact hmin l' ⟨h.1, c, h.2.2.2⟩
      · have b1 := numL_lt l 1 hl.1
        rw [hl.2.1] at b1
        have b2 := numL_ge l' h.1 h.2.1
        have b3 : 10 ^ j ≤ 10 ^ (l'.length - 1) := Nat.pow_le_pow_right (by omega) (by omega)
        exact Nat.le_of_lt (Nat.lt_of_lt_of_le b1 (Nat.le_trans b3 b2))
    · obtain ⟨o2, ho2, he2⟩ := ih (j + 1) (by omega) (by omega) (fun l h => by
        have h3 := hno l h
        by_cases c : l.length = j
        · exact absurd ⟨h.1, c, h.2.2.2⟩ (hnone l)
        · omega)
      exact ⟨o2, ho2, step _ (ev_neg (by rw [hf]; decide) he2)⟩
theorem sLB_ev (s p : Nat) (hs : s ≤ 108) (hp : 1 ≤ p) (hp2 : p ≤ 1000000000000) : ∃ o, leastOf s p o ∧ Ev (fun k => spec_LeastBoth.f k (s : Int) (p : Int)) o := by
  obtain ⟨o, ho, he⟩ := sLB_loop s p hs hp hp2 12 1 (by omega) (by omega) (fun l h => h.2.1)
  refine ⟨o, ho, ?_⟩
  unfold spec_LeastBoth.f spec_leSum.f
  rw [l1In_eq, l1In_eq]
  refine ev_pos (decide_eq_true ⟨by omega, by omega⟩) (ev_succ ?_)
  simp only [spec_LeastBoth.j0]
  exact ev_neg (by simp; omega) he
theorem sLB_out (s p : Int) (h : ¬ ((0 ≤ s ∧ s ≤ 108) ∧ (1 ≤ p ∧ p ≤ 1000000000000))) : Ev (fun k => spec_LeastBoth.f k s p) (0, false) := by
  unfold spec_LeastBoth.f spec_leSum.f
  rw [l1In_eq, l1In_eq]
  by_cases c : 0 ≤ s ∧ s ≤ 108
  · refine ev_pos (decide_eq_true c) (ev_succ ?_)
    simp only [spec_LeastBoth.j0]
    exact ev_pos (by simp; omega) (ev_eq fun _ => rfl)
  · refine ev_neg (by simpa using c) (ev_succ ?_)
    simp only [spec_LeastBoth.j0]
    exact ev_pos trivial (ev_eq fun _ => rfl)
theorem rd_at (l : List Int) (i : Nat) (h : i < l.length) : rd l (i : Int) = l[i] := by
  unfold rd
  rw [Int.toNat_natCast, List.getD_eq_getElem?_getD, List.getElem?_eq_getElem h]; rfl
/-- The number that digits tell. -/
def val (a : Int) (l : List Int) : Int := l.foldl (fun a d => 10 * a + d) a
theorem val_range (k : Nat) : ∀ (l : List Int) (a : Int), l.length ≤ k → (∀ d ∈ l, 0 ≤ d ∧ d ≤ 9) → 0 ≤ a → 0 ≤ val a l ∧ val a l < (a + 1) * 10 ^ l.length
  | l, a, hk, hd, ha => by
    induction l generalizing a with
    | nil => simp [val]; omega
    | cons x l ih =>
      have h1 := hd x List.mem_cons_self
      have := ih (10 * a + x) (by simp at hk; omega) (fun d hd' => hd d (List.mem_cons_of_mem _ hd')) (by omega)
      refine ⟨this.1, Int.lt_of_lt_of_le this.2 ?_⟩
      rw [List.length_cons, Int.pow_succ, Int.mul_comm (10 ^ l.length) 10, ← Int.mul_assoc]
      exact Int.mul_le_mul_of_nonneg_right (by omega) (Int.pow_nonneg (by omega))
theorem pow13 (n : Nat) (h : n ≤ 13) : (10 : Int) ^ n ≤ 10000000000000 := by
  have : (10 : Int) ^ n = ((10 ^ n : Nat) : Int) := by simp
  rw [this]
  have := Nat.pow_le_pow_right (n := 10) (by decide) h
  omega
theorem val_snoc (a : Int) (l : List Int) (x : Int) : val a (l ++ [x]) = 10 * val a l + x := by unfold val; rw [List.foldl_append]; rfl
theorem val_small (l : List Int) (h : l.length ≤ 13) (hd : ∀ d ∈ l, 0 ≤ d ∧ d ≤ 9) : 0 ≤ val 0 l ∧ val 0 l < 10000000000000 := by
  have h1 := val_range 13 l 0 h hd (Int.le_refl 0)
  have h2 := pow13 l.length h
  omega
theorem bt_at' (s : ByteArray) (xs : List Int) (hs : bytesOf s = xs) (i : Nat) (hi : i < xs.length) : bt s (i : Int) = xs[i] := by
  rw [← rd_bytesOf, hs, rd_at _ i hi]
theorem numberOf_ev (l : List Int) (h : l.length ≤ 13) (hd : ∀ d ∈ l, 0 ≤ d ∧ d ≤ 9) : Ev (fun k => impl_numberOf.f k (strOfNums (l.map (48 + ·)))) (val 0 l) := by
  have hb : bytesOf (strOfNums (l.map (48 + ·))) = l.map (48 + ·) := by
    unfold bytesOf strOfNums
    simp only [List.map_map]
    apply List.map_congr_left
    intro d hdm
    have := hd d hdm
    simp only [Function.comp]
    rw [UInt8.toNat_ofNat']
    omega
  have hsz : (strOfNums (l.map (48 + ·))).size = l.length := by rw [← bytesOf_length, hb, List.length_map]
  have go : ∀ (d i : Nat), i + d = l.length → Ev (fun k => impl_numberOf.l0 k (strOfNums (l.map (48 + ·))) (val 0 (l.take i)) (l.length : Int) (i : Int)) (val 0 l) := by
    intro d
    induction d with
    | zero =>
      intro i hi
      refine ev_succ ?_
      simp only [impl_numberOf.l0]
      refine ev_neg (by omega) (ev_eq fun _ => ?_)
      rw [List.take_of_length_le (by omega)]
    | succ d ih =>
      intro i hi
      have hlt : i < l.length := by omega
      refine ev_succ ?_
      simp only [impl_numberOf.l0]
      have hx := hd l[i] (List.getElem_mem hlt)
      have hbt : bt (strOfNums (l.map (48 + ·))) (i : Int) = 48 + l[i] := by
        rw [bt_at' _ _ hb i (by rw [List.length_map]; exact hlt), List.getElem_map]
      have hv := val_small (l.take i) (by have := List.length_take_le i l; omega) (fun y hy => hd y (List.mem_of_mem_take hy))
      rw [hbt, wrap_nat (by omega), show (48 + l[i] - 48) % 256 = l[i] by omega, wrap_of (x := 10 * val 0 (l.take i)) (by omega) (by omega), wrap_of (by omega) (by omega)]
      refine ev_pos (by omega) (ev_pos (by omega) (ev_pos (by rw [hsz]; omega) ?_))
      have := ih (i + 1) (by omega)
      rw [List.take_succ_eq_append_getElem hlt, val_snoc] at this
      exact this
  unfold impl_numberOf.f
  rw [hsz]
  exact go l.length 0 (by omega)

/-! ### the program's search -/
def toI (l : List Nat) : List Int := l.map (fun d : Nat => (d : Int))
def chs (l : List Nat) : List Int := (toI l).map (48 + ·)
theorem chs_append (a b : List Nat) : chs (a ++ b) = chs a ++ chs b := by simp [chs, toI]
theorem asc_all (l : List Nat) : ∀ lo, asc lo l → l.Pairwise (· ≤ ·) ∧ ∀ x ∈ l, lo ≤ x ∧ x ≤ 9 := by
  induction l with
  | nil => intro lo _; exact ⟨List.Pairwise.nil, by simp⟩
  | cons d l ih =>
    intro lo h
    obtain ⟨h1, h2⟩ := ih d h.2.2
    refine ⟨List.pairwise_cons.mpr ⟨fun x hx => (h2 x hx).1, h1⟩, fun x hx => ?_⟩
    rcases List.mem_cons.mp hx with e | e
    · rw [e]; exact ⟨h.1, h.2.1⟩
    · have := h2 x e; have := h.1; omega
theorem asc_of (l : List Nat) : ∀ lo, l.Pairwise (· ≤ ·) → (∀ x ∈ l, lo ≤ x ∧ x ≤ 9) → asc lo l := by
  induction l with
  | nil => intro lo _ _; trivial
  | cons d l ih =>
    intro lo h1 h2
    obtain ⟨h3, h4⟩ := List.pairwise_cons.mp h1
    have hd := h2 d (List.mem_cons_self ..)
    exact ⟨hd.1, hd.2, ih d h4 (fun x hx => ⟨h3 x hx, (h2 x (List.mem_cons_of_mem _ hx)).2⟩)⟩
theorem val_numL (l : List Nat) : ∀ a : Nat, val (a : Int) (toI l) = (numL a l : Int) := by
  induction l with
  | nil => intro a; rfl
  | cons d l ih =>
    intro a
    have := ih (10 * a + d)
    simp only [toI, List.map_cons, val, List.foldl_cons, numL] at this ⊢
    rw [show 10 * (a : Int) + (d : Int) = ((10 * a + d : Nat) : Int) by omega]
    exact this
theorem sorted_chs (l m : List Nat) (hp : l.Perm m) (hm : m.Pairwise (· ≤ ·)) : SortB.sorted (chs l) = chs m := by
  have hs1 : (SortB.sorted (chs l)).Pairwise (· ≤ ·) := by
    have := List.pairwise_mergeSort (le := fun (x y : Int) => decide (x ≤ y)) (fun a b c h1 h2 => by simp at *; omega) (fun a b => by simp; omega) (chs l)
    exact this.imp (fun {a b} h => by simpa using h)
  have hs2 : (chs m).Pairwise (· ≤ ·) := by
    unfold chs toI
    rw [List.map_map]
    exact List.pairwise_map.mpr (hm.imp (fun {a b} h => by simp; omega))
  have hp2 : (SortB.sorted (chs l)).Perm (chs m) := (List.mergeSort_perm _ _).trans ((hp.map _).map _)
  exact hp2.eq_of_pairwise (fun a b _ _ h1 h2 => by omega) hs1 hs2
/-- the row of a search's way: its digits fall -/
def dsOf (r : List Nat) : List Int := chs r.reverse
theorem dsOf_cons (d : Nat) (r : List Nat) : dsOf (d :: r) = dsOf r ++ [48 + (d : Int)] := by
  unfold dsOf; rw [List.reverse_cons, chs_append]; rfl
theorem dsOf_len (r : List Nat) : (dsOf r).length = r.length := by simp [dsOf, chs, toI]
theorem lsN_append (a b : List Nat) : lsN (a ++ b) = lsN a + lsN b := by
  induction a with
  | nil => simp [lsN]
  | cons x a ih => simp only [List.cons_append, lsN, ih]; omega
theorem lpN_append (a b : List Nat) : lpN (a ++ b) = lpN a * lpN b := by
  induction a with
  | nil => simp [lpN]
  | cons x a ih => simp only [List.cons_append, lpN, ih, Nat.mul_assoc]
theorem ones_sum (n : Nat) : lsN (List.replicate n 1) = n ∧ lpN (List.replicate n 1) = 1 := by
  induction n with
  | zero => exact ⟨rfl, rfl⟩
  | succ n ih => rw [List.replicate_succ]; exact ⟨by simp only [lsN, ih.1]; omega, by simp only [lpN, ih.2]⟩
theorem ones_asc (n : Nat) (r : List Nat) (h : asc 2 r) : asc 1 (List.replicate n 1 ++ r) := by
  induction n with
  | zero => exact asc_mono h (by omega)
  | succ n ih => rw [List.replicate_succ, List.cons_append]; exact ⟨Nat.le_refl _, by omega, ih⟩
theorem asL_ev (r : List Nat) (s : Nat) (h : asc 2 r) : Ev (fun k => impl_asLeast.f k (dsOf r ++ List.replicate s 49)) (if (List.replicate s 1 ++ r).length > 12 then (0, false) else ((numL 0 (List.replicate s 1 ++ r) : Int), true)) := by
  have e : dsOf r ++ List.replicate s 49 = chs (r.reverse ++ List.replicate s 1) := by
    rw [chs_append]; simp [dsOf, chs, toI]
  have hlen : (chs (r.reverse ++ List.replicate s 1)).length = (List.replicate s 1 ++ r).length := by simp [chs, toI]; omega
  have ha := ones_asc s r h
  obtain ⟨a1, a2⟩ := asc_all _ 1 ha
  have hs := sorted_chs (r.reverse ++ List.replicate s 1) (List.replicate s 1 ++ r) (List.perm_append_comm.trans ((List.reverse_perm r).append_left _)) a1
  unfold impl_asLeast.f
  rw [e, hs, hlen]
  by_cases c : (List.replicate s 1 ++ r).length > 12
  · rw [if_pos c]; exact ev_pos c (ev_eq fun _ => rfl)
  · rw [if_neg c]
    refine ev_neg c ?_
    have hn := numberOf_ev (toI (List.replicate s 1 ++ r)) (by simp only [toI, List.length_map]; omega) (fun d hd => by
      obtain ⟨x, hx, rfl⟩ := List.mem_map.mp hd
      have := a2 x hx; omega)
    have hv := val_numL (List.replicate s 1 ++ r) 0
    rw [show ((0 : Nat) : Int) = 0 from rfl] at hv
    rw [hv] at hn
    exact Ev.bind hn (ev_eq fun _ => rfl)
/-- the best of some lists -/
def Bst (X : List Nat → Prop) (st : Int × Bool) : Prop :=
  (∃ l, X l ∧ (∀ l', X l' → numL 0 l ≤ numL 0 l') ∧ st = ((numL 0 l : Int), true)) ∨ ((∀ l', ¬ X l') ∧ st = (0, false))
theorem Bst_congr {X Y : List Nat → Prop} {st : Int × Bool} (h : ∀ l, X l ↔ Y l) (b : Bst X st) : Bst Y st := by
  have : X = Y := funext fun l => propext (h l)
  rw [← this]; exact b
/-- what a way goes on with: digits from 2 up to most, ahead of it, and ones ahead of all -/
def Yl (r : List Nat) (most s p : Nat) (l : List Nat) : Prop :=
  ∃ q, asc 2 q ∧ (∀ x ∈ q, x ≤ most) ∧ lsN q ≤ s ∧ lpN q = p ∧ l = List.replicate (s - lsN q) 1 ++ (q ++ r) ∧ 1 ≤ l.length ∧ l.length ≤ 12
theorem asc_snoc (q : List Nat) (d : Nat) (h2 : 2 ≤ d) (h9 : d ≤ 9) : asc 2 (q ++ [d]) ↔ asc 2 q ∧ ∀ x ∈ q, x ≤ d := by
  constructor
  · intro h
    obtain ⟨h1, h3⟩ := asc_all _ 2 h
    obtain ⟨h4, _, h5⟩ := List.pairwise_append.mp h1
    exact ⟨asc_of q 2 h4 (fun x hx => h3 x (List.mem_append_left _ hx)), fun x hx => h5 x hx d (List.mem_singleton.mpr rfl)⟩
  · rintro ⟨h, hd⟩
    obtain ⟨h1, h3⟩ := asc_all _ 2 h
    refine asc_of _ 2 (List.pairwise_append.mpr ⟨h1, List.pairwise_singleton _ _, fun x hx y hy => ?_⟩) (fun x hx => ?_)
    · rw [List.mem_singleton.mp hy]; exact hd x hx
    · rcases List.mem_append.mp hx with e | e
      · exact h3 x e
      · rw [List.mem_singleton.mp e]; exact ⟨h2, h9⟩
theorem lastOf (q : List Nat) (d : Nat) (h : asc 2 q) (hd : ∀ x ∈ q, x ≤ d) (hm : d ∈ q) : ∃ q', q = q' ++ [d] := by
  have hne : q ≠ [] := fun e => by subst e; simp at hm
  refine ⟨q.dropLast, ?_⟩
  have e := List.dropLast_concat_getLast hne
  have hl : q.getLast hne = d := by
    obtain ⟨h1, _⟩ := asc_all _ 2 h
    have h2 := hd _ (List.getLast_mem hne)
    rw [← e] at h1 hm
    obtain ⟨_, _, h5⟩ := List.pairwise_append.mp h1
    rcases List.mem_append.mp hm with m | m
    · have := h5 d m _ (List.mem_singleton.mpr rfl); omega
    · exact (List.mem_singleton.mp m).symm
  rw [← hl]; exact e.symm
theorem Yl_step (r : List Nat) (c s p : Nat) (hp : 1 ≤ p) (hc : c + 2 ≤ 9) (l : List Nat) :
    Yl r (c + 2) s p l ↔ (p % (c + 2) = 0 ∧ c + 2 ≤ s ∧ Yl ((c + 2) :: r) (c + 2) (s - (c + 2)) (p / (c + 2)) l) ∨ Yl r (c + 1) s p l := by
  constructor
  · rintro ⟨q, h1, h2, h3, h4, h5, h6⟩
    by_cases m : c + 2 ∈ q
    · obtain ⟨q', rfl⟩ := lastOf q (c + 2) h1 h2 m
      obtain ⟨g1, g2⟩ := (asc_snoc q' (c + 2) (by omega) hc).mp h1
      rw [lsN_append] at h3 h5
      rw [lpN_append] at h4
      simp only [lsN, lpN, Nat.mul_one, Nat.add_zero] at h3 h4 h5
      refine .inl ⟨by rw [← h4]; exact Nat.mul_mod_left _ _, by omega, q', g1, g2, by omega, ?_, ?_, h6⟩
      · rw [← h4]; exact (Nat.mul_div_cancel _ (by omega)).symm
      · rw [h5, show s - (lsN q' + (c + 2)) = s - (c + 2) - lsN q' by omega, List.append_assoc]; rfl
    · refine .inr ⟨q, h1, fun x hx => ?_, h3, h4, h5, h6⟩
      have := h2 x hx
      have : x ≠ c + 2 := fun e => m (e ▸ hx)
      omega
  · rintro (⟨hm, hs, q', h1, h2, h3, h4, h5, h6⟩ | ⟨q, h1, h2, h3, h4, h5, h6⟩)
    · refine ⟨q' ++ [c + 2], (asc_snoc q' (c + 2) (by omega) hc).mpr ⟨h1, h2⟩, fun x hx => ?_, ?_, ?_, ?_, h6⟩
      · rcases List.mem_append.mp hx with e | e
        · exact h2 x e
        · rw [List.mem_singleton.mp e]; exact Nat.le_refl _
      · rw [lsN_append]; simp only [lsN]; omega
      · rw [lpN_append, h4]; simp only [lpN, Nat.mul_one]; exact Nat.div_mul_cancel (Nat.dvd_of_mod_eq_zero hm)
      · rw [h5, lsN_append]; simp only [lsN, Nat.add_zero]
        rw [show s - (lsN q' + (c + 2)) = s - (c + 2) - lsN q' by omega, List.append_assoc]; rfl
    · exact ⟨q, h1, fun x hx => Nat.le_succ_of_le (h2 x hx), h3, h4, h5, h6⟩
theorem lpN_one (q : List Nat) (h : asc 2 q) (hp : lpN q = 1) : q = [] := by
  cases q with
  | nil => rfl
  | cons d q =>
    exfalso
    simp only [lpN] at hp
    have h1 := h.1
    have : d = 1 := Nat.eq_one_of_mul_eq_one_right hp
    omega
theorem Yl_one (r : List Nat) (s p : Nat) (hp : p ≠ 1) (l : List Nat) : ¬ Yl r 1 s p l := by
  rintro ⟨q, h1, h2, _, h4, _⟩
  cases q with
  | nil => simp only [lpN] at h4; exact hp h4.symm
  | cons d q => have := h1.1; have := h2 d (List.mem_cons_self ..); omega
theorem Yl_leaf (r : List Nat) (most s : Nat) (l : List Nat) : Yl r most s 1 l ↔ (l = List.replicate s 1 ++ r ∧ 1 ≤ l.length ∧ l.length ≤ 12) := by
  constructor
  · rintro ⟨q, h1, _, _, h4, h5, h6⟩
    obtain rfl := lpN_one q h1 h4
    exact ⟨by simpa [lsN] using h5, h6⟩
  · rintro ⟨h, h6⟩
    exact ⟨[], trivial, by simp, Nat.zero_le _, rfl, by simpa [lsN] using h, h6⟩
theorem leaf_ev (r : List Nat) (most s : Nat) (h : asc 2 r) (X : List Nat → Prop) (st : Int × Bool) (hb : Bst X st) :
    ∃ st', Ev (fun k => impl_choose.leaf k (dsOf r) (s : Int) st) st' ∧ Bst (fun l => X l ∨ Yl r most s 1 l) st' := by
  obtain ⟨L, hL⟩ : ∃ L, L = List.replicate s 1 ++ r := ⟨_, rfl⟩
  have he := asL_ev r s h
  rw [← hL] at he
  have ha := ones_asc s r h
  rw [← hL] at ha
  obtain ⟨o, ho⟩ : ∃ o, o = (if L.length > 12 then ((0 : Int), false) else ((numL 0 L : Int), true)) := ⟨_, rfl⟩
  rw [← ho] at he
  refine ⟨if o.2 = true ∧ 0 < o.1 ∧ (st.2 = false ∨ o.1 < st.1) then (o.1, true) else st, ?_, ?_⟩
  · unfold impl_choose.leaf
    rw [Int.toNat_natCast]
    exact Ev.bind he (ev_eq fun _ => rfl)
  have hY : ∀ l, (X l ∨ Yl r most s 1 l) ↔ (X l ∨ (l = L ∧ 1 ≤ l.length ∧ l.length ≤ 12)) := fun l => by rw [Yl_leaf, hL]
  refine Bst_congr (fun l => (hY l).symm) ?_
  by_cases c : L.length > 12
  · rw [if_pos c] at ho
    subst ho
    rw [if_neg (by simp)]
    refine Bst_congr (fun l => ⟨.inl, fun z => ?_⟩) hb
    rcases z with z | ⟨rfl, _, z⟩
    · exact z
    · omega
  rw [if_neg c] at ho
  subst ho
  by_cases c0 : L.length = 0
  · have : L = [] := List.eq_nil_of_length_eq_zero c0
    subst this
    rw [if_neg (by simp [numL])]
    refine Bst_congr (fun l => ⟨.inl, fun z => ?_⟩) hb
    rcases z with z | ⟨rfl, z, _⟩
    · exact z
    · simp at z
  have hpos := numL_ge L ha (by omega)
  have hp10 : 0 < 10 ^ (L.length - 1) := Nat.pow_pos (by omega)
  have hn0 : 0 < numL 0 L := Nat.lt_of_lt_of_le hp10 hpos
  clear hpos hp10
  rcases hb with ⟨l0, hl0, hmin, rfl⟩ | ⟨hno, rfl⟩
  · by_cases cl : numL 0 L < numL 0 l0
    · rw [if_pos ⟨rfl, by dsimp only; omega, .inr (by dsimp only; omega)⟩]
      refine .inl ⟨L, .inr ⟨rfl, by omega, by omega⟩, fun l' h' => ?_, rfl⟩
      rcases h' with h' | ⟨rfl, _⟩
      · have := hmin l' h'; omega
      · exact Nat.le_refl _
    · rw [if_neg (by rintro ⟨_, _, z | z⟩ <;> dsimp only at z <;> first | cases z | omega)]
      refine .inl ⟨l0, .inl hl0, fun l' h' => ?_, rfl⟩
      rcases h' with h' | ⟨rfl, _⟩
      · exact hmin l' h'
      · omega
  · rw [if_pos ⟨rfl, by dsimp only; omega, .inl rfl⟩]
    refine .inl ⟨L, .inr ⟨rfl, by omega, by omega⟩, fun l' h' => ?_, rfl⟩
    rcases h' with h' | ⟨rfl, _⟩
    · exact absurd h' (hno l')
    · exact Nat.le_refl _
theorem choose_ev : ∀ (n : Nat) (r : List Nat) (most s p : Nat) (X : List Nat → Prop) (st : Int × Bool), asc 2 r → (∀ x ∈ r, most ≤ x) → 1 ≤ most → most ≤ 9 → s ≤ 108 → 1 ≤ p → p ≤ 1000000000000 → p < 2 ^ n → r.length + n ≤ 60 → Bst X st →
    ∃ st', Ev (fun k => impl_choose.f k n (dsOf r) most (s : Int) (p : Int) st) st' ∧ Bst (fun l => X l ∨ Yl r most s p l) st' := by
  intro n
  induction n with
  | zero => intro r most s p X st _ _ _ _ _ h1 _ h2 _ _; rw [Nat.pow_zero] at h2; omega
  | succ n ih =>
    intro r most s p X st hr hmr h1 h9 hs hp hp2 hpn hrn hb
    have guard : ∀ st', Ev (fun k => if (p : Int) = 1 then impl_choose.leaf k (dsOf r) (s : Int) st else impl_choose.loop (impl_choose.f k n) (dsOf r) (s : Int) (p : Int) (most - 1) st) st' →
        Ev (fun k => impl_choose.f k (n + 1) (dsOf r) most (s : Int) (p : Int) st) st' := by
      intro st' h
      have g : ((0 : Int) ≤ (s : Int) ∧ (s : Int) ≤ 108) ∧ ((1 : Int) ≤ (p : Int) ∧ (p : Int) ≤ 1000000000000) ∧ (1 ≤ most ∧ most ≤ 9) ∧ (dsOf r).length ≤ 60 := by
        rw [dsOf_len]
        exact ⟨⟨by omega, by omega⟩, ⟨by omega, by omega⟩, ⟨h1, h9⟩, by omega⟩
      unfold impl_choose.f
      exact ev_pos g h
    by_cases c1 : p = 1
    · subst c1
      obtain ⟨st', he, hb'⟩ := leaf_ev r most s hr X st hb
      exact ⟨st', guard st' (ev_pos rfl he), hb'⟩
    have loop : ∀ (c : Nat), c + 1 ≤ most → ∀ (X : List Nat → Prop) (st : Int × Bool), Bst X st →
        ∃ st', Ev (fun k => impl_choose.loop (impl_choose.f k n) (dsOf r) (s : Int) (p : Int) c st) st' ∧ Bst (fun l => X l ∨ Yl r (c + 1) s p l) st' := by
      intro c
      induction c with
      | zero =>
        intro _ X st hb
        refine ⟨st, ev_eq fun _ => rfl, Bst_congr (fun l => ⟨.inl, fun z => ?_⟩) hb⟩
        rcases z with z | z
        · exact z
        · exact absurd z (Yl_one r s p c1 l)
      | succ c ihc =>
        intro hc X st hb
        have hstep := Yl_step r c s p hp (by omega)
        have em : Int.tmod (p : Int) ((c + 2 : Nat) : Int) = ((p % (c + 2) : Nat) : Int) := w_modd p (c + 2)
        by_cases cd : p % (c + 2) = 0 ∧ c + 2 ≤ s
        · obtain ⟨hpd, hq1, hq2⟩ := pdiv_facts p (c + 2) hp cd.1
          obtain ⟨q, hq⟩ : ∃ q, q = p / (c + 2) := ⟨_, rfl⟩
          rw [← hq] at hpd hq1 hq2
          have hqn : q < 2 ^ n := by
            have h5 : 2 * q ≤ p := by rw [← hpd]; exact Nat.mul_le_mul_right q (by omega)
            rw [Nat.pow_succ] at hpn
            generalize 2 ^ n = z at *
            clear hpd hstep
            omega
          obtain ⟨st1, he1, hb1⟩ := ih ((c + 2) :: r) (c + 2) (s - (c + 2)) q X st ⟨by omega, by omega, (by
              cases r with
              | nil => trivial
              | cons y r => exact ⟨by have := hmr y (List.mem_cons_self ..); omega, hr.2.1, hr.2.2⟩)⟩
            (fun x hx => by
              rcases List.mem_cons.mp hx with e | e
              · rw [e]; exact Nat.le_refl _
              · have := hmr x e; omega)
            (by omega) (by omega) (by omega) hq1 (Nat.le_trans hq2 hp2) hqn (by rw [List.length_cons]; omega) hb
          obtain ⟨st2, he2, hb2⟩ := ihc (by omega) _ st1 hb1
          refine ⟨st2, ?_, Bst_congr (fun l => ?_) hb2⟩
          · have e2 : dsOf r ++ [((c + 50 : Nat) : Int)] = dsOf ((c + 2) :: r) := by rw [dsOf_cons]; congr 2; omega
            have e3 : (s : Int) - ((c + 2 : Nat) : Int) = ((s - (c + 2) : Nat) : Int) := by omega
            have e4 : Int.tdiv (p : Int) ((c + 2 : Nat) : Int) = (q : Int) := by rw [Int.tdiv_eq_ediv_of_nonneg (Int.natCast_nonneg p), ← Int.natCast_ediv, ← hq]
            unfold impl_choose.loop
            rw [em, e2, e3, e4]
            exact ev_pos ⟨by rw [cd.1]; rfl, by omega⟩ (Ev.bind he1 he2)
          · rw [hstep l, ← hq]
            constructor
            · rintro ((z | z) | z)
              · exact .inl z
              · exact .inr (.inl ⟨cd.1, cd.2, z⟩)
              · exact .inr (.inr z)
            · rintro (z | ⟨_, _, z⟩ | z)
              · exact .inl (.inl z)
              · exact .inl (.inr z)
              · exact .inr z
        · obtain ⟨st2, he2, hb2⟩ := ihc (by omega) X st hb
          refine ⟨st2, ?_, Bst_congr (fun l => ?_) hb2⟩
          · unfold impl_choose.loop
            rw [em]
            exact ev_neg (fun z => cd ⟨by have := z.1; omega, by have := z.2; omega⟩) he2
          · rw [hstep l]
            constructor
            · rintro (z | z)
              · exact .inl z
              · exact .inr (.inr z)
            · rintro (z | ⟨z1, z2, _⟩ | z)
              · exact .inl z
              · exact absurd ⟨z1, z2⟩ cd
              · exact .inr z
    obtain ⟨st', he, hb'⟩ := loop (most - 1) (by omega) X st hb
    rw [Nat.sub_add_cancel h1] at hb'
    exact ⟨st', guard st' (ev_neg (by omega) he), hb'⟩
/-- ones ahead, then digits from 2 on -/
theorem asc_split (l : List Nat) (h : asc 1 l) : ∃ a q, l = List.replicate a 1 ++ q ∧ asc 2 q := by
  induction l with
  | nil => exact ⟨0, [], rfl, trivial⟩
  | cons d l ih =>
    by_cases c : d = 1
    · subst c
      obtain ⟨a, q, e, hq⟩ := ih h.2.2
      exact ⟨a + 1, q, by rw [e, List.replicate_succ, List.cons_append], hq⟩
    · exact ⟨0, d :: l, rfl, ⟨by have := h.1; omega, h.2⟩⟩
theorem Yl_cand (s p : Nat) (l : List Nat) : Yl [] 9 s p l ↔ cand s p l := by
  constructor
  · rintro ⟨q, h1, _, h3, h4, h5, h6, h7⟩
    rw [List.append_nil] at h5
    have ho := ones_sum (s - lsN q)
    refine ⟨by rw [h5]; exact ones_asc _ q h1, h6, h7, ?_, ?_⟩
    · rw [h5, lsN_append, ho.1]; omega
    · rw [h5, lpN_append, ho.2, h4, Nat.one_mul]
  · rintro ⟨h1, h2, h3, h4, h5⟩
    obtain ⟨a, q, e, hq⟩ := asc_split l h1
    have ho := ones_sum a
    rw [e, lsN_append, ho.1] at h4
    rw [e, lpN_append, ho.2, Nat.one_mul] at h5
    exact ⟨q, hq, fun x hx => ((asc_all q 2 hq).2 x hx).2, by omega, h5, by rw [List.append_nil, e, show s - lsN q = a by omega], h2, h3⟩
theorem iLB_ev (s p : Nat) (hs : s ≤ 108) (hp : 1 ≤ p) (hp2 : p ≤ 1000000000000) : ∃ o, leastOf s p o ∧ Ev (fun k => impl_LeastBoth.f k (s : Int) (p : Int)) o := by
  have h42 : (2 : Nat) ^ 42 = 4398046511104 := by decide
  obtain ⟨o, he, hb⟩ := choose_ev 42 [] 9 s p (fun _ => False) (0, false) trivial (by simp) (by omega) (by omega) hs hp hp2 (by rw [h42]; omega) (by decide) (.inr ⟨fun _ h => h, rfl⟩)
  refine ⟨o, Bst_congr (fun l => ?_) hb, ?_⟩
  · rw [Yl_cand]
    exact ⟨fun z => z.resolve_left id, .inr⟩
  · unfold impl_LeastBoth.f impl_isSum.f impl_isProduct.f
    rw [within_eq, within_eq]
    exact ev_pos (decide_eq_true ⟨by omega, by omega⟩) (ev_pos (decide_eq_true ⟨by omega, by omega⟩) he)
theorem iLB_out (s p : Int) (h : ¬ ((0 ≤ s ∧ s ≤ 108) ∧ (1 ≤ p ∧ p ≤ 1000000000000))) : Ev (fun k => impl_LeastBoth.f k s p) (0, false) := by
  unfold impl_LeastBoth.f impl_isSum.f impl_isProduct.f
  rw [within_eq, within_eq]
  by_cases c : 0 ≤ s ∧ s ≤ 108
  · exact ev_pos (decide_eq_true c) (ev_neg (by simp; omega) (ev_eq fun _ => rfl))
  · exact ev_neg (by simpa using c) (ev_eq fun _ => rfl)

/-! ### digits with a product: the fewest, in order, make the least number -/
theorem numL_app (A X : List Nat) : ∀ n, numL n (A ++ X) = numL (numL n A) X := by
  induction A with
  | nil => intro n; rfl
  | cons d A ih => intro n; exact ih _
theorem numL_mono (l : List Nat) : ∀ {n m : Nat}, n ≤ m → numL n l ≤ numL m l := by
  induction l with
  | nil => intro n m h; exact h
  | cons d l ih => intro n m h; exact ih (by omega)
theorem numL_snoc (l : List Nat) (n e : Nat) : numL n (l ++ [e]) = 10 * numL n l + e := by rw [numL_app]; rfl
def okD (l : List Nat) : Prop := ∀ x ∈ l, 1 ≤ x ∧ x ≤ 9
theorem numL_up (l : List Nat) (h : okD l) : numL 0 l < 10 ^ l.length := by
  induction l with
  | nil => simp [numL]
  | cons d l ih =>
    have h1 := h d List.mem_cons_self
    have h2 := ih (fun x hx => h x (List.mem_cons_of_mem _ hx))
    rw [numL, numL_eq, List.length_cons, Nat.pow_succ]
    have : (10 * 0 + d) * 10 ^ l.length ≤ 9 * 10 ^ l.length := Nat.mul_le_mul_right _ (by omega)
    omega
theorem numL_lo (d u : Nat) (l : List Nat) (h : u ≤ d) : u * 10 ^ l.length ≤ numL 0 (d :: l) := by
  rw [numL, numL_eq]
  have : u * 10 ^ l.length ≤ (10 * 0 + d) * 10 ^ l.length := Nat.mul_le_mul_right _ (by omega)
  omega
theorem num_ins (B : List Nat) (e : Nat) (h : ∀ x ∈ B, e ≤ x) : ∀ n, numL n (e :: B) ≤ numL n (B ++ [e]) := by
  induction B with
  | nil => intro n; exact Nat.le_refl _
  | cons y B ih =>
    intro n
    have hy := h y List.mem_cons_self
    have h1 := ih (fun x hx => h x (List.mem_cons_of_mem _ hx)) (10 * n + y)
    refine Nat.le_trans ?_ h1
    simp only [numL]
    exact numL_mono B (by omega)
/-- A digit set at its place makes no more than behind all. -/
theorem num_place (A B : List Nat) (e : Nat) (h : ∀ x ∈ B, e ≤ x) : numL 0 (A ++ e :: B) ≤ 10 * numL 0 (A ++ B) + e := by
  rw [← numL_snoc, List.append_assoc, numL_app, numL_app]
  exact num_ins B e h _
theorem num_short (X O : List Nat) (e : Nat) (hX : okD X) (hO : okD O) (hl : X.length ≤ O.length) (h0 : O ≠ []) : numL 0 X ≤ 10 * numL 0 O + e := by
  cases O with
  | nil => exact absurd rfl h0
  | cons d O =>
    have h1 := numL_up X hX
    have h2 := numL_lo d 1 O (hO d List.mem_cons_self).1
    have h3 : 10 ^ X.length ≤ 10 ^ (O.length + 1) := Nat.pow_le_pow_right (by omega) hl
    rw [Nat.pow_succ] at h3
    omega
theorem num_lead (u e : Nat) (X O : List Nat) (hX : okD X) (hO : ∀ x ∈ O, u + 1 ≤ x) (hl : X.length = O.length) (h0 : O ≠ []) : numL 0 (u :: X) ≤ 10 * numL 0 O + e := by
  cases O with
  | nil => exact absurd rfl h0
  | cons d O =>
    have h1 := numL_up X hX
    have h2 := numL_lo d (u + 1) O (hO d List.mem_cons_self)
    have h3 : numL 0 (u :: X) = u * 10 ^ X.length + numL 0 X := by rw [numL, numL_eq]; simp
    rw [hl, List.length_cons, Nat.pow_succ] at h1 h3
    rw [Nat.add_mul] at h2
    rw [← Nat.mul_assoc] at h3
    omega
def lowD (r t : Nat) : List Nat := if t = 0 then (if r = 0 then [] else if r = 1 then [2] else [4]) else (if r = 0 then [3] else if r = 1 then [] else [2])
def midD (r t : Nat) : List Nat := if r = 0 ∨ t = 0 then [] else [6]
def gD (r t i j c d : Nat) : List Nat := lowD r t ++ (List.replicate c 5 ++ (midD r t ++ (List.replicate d 7 ++ (List.replicate i 8 ++ List.replicate j 9))))
def prD (r t i j c d : Nat) : Nat := 2 ^ r * 3 ^ t * 5 ^ c * 7 ^ d * 8 ^ i * 9 ^ j
theorem tail_ok (c d i j : Nat) (M : List Nat) (hM : okD M) : okD (List.replicate c 5 ++ (M ++ (List.replicate d 7 ++ (List.replicate i 8 ++ List.replicate j 9)))) := by
  intro x hx
  simp only [List.mem_append, List.mem_replicate] at hx
  rcases hx with h | h | h | h | h
  · omega
  · exact hM x h
  · omega
  · omega
  · omega
theorem snocR (n x : Nat) : List.replicate (n + 1) x = List.replicate n x ++ [x] := List.replicate_succ'
theorem step9 (r t i j c d : Nat) : numL 0 (gD r t i (j + 1) c d) ≤ 10 * numL 0 (gD r t i j c d) + 9 := by
  unfold gD
  rw [snocR, ← numL_snoc]
  simp only [List.append_assoc]
  exact Nat.le_refl _
theorem step8 (r t i j c d : Nat) : numL 0 (gD r t (i + 1) j c d) ≤ 10 * numL 0 (gD r t i j c d) + 8 := by
  have h := num_place (lowD r t ++ (List.replicate c 5 ++ (midD r t ++ (List.replicate d 7 ++ List.replicate i 8)))) (List.replicate j 9) 8 (by simp only [List.mem_replicate]; omega)
  unfold gD
  rw [snocR]
  simpa only [List.append_assoc, List.singleton_append, List.cons_append, List.nil_append] using h
theorem step7 (r t i j c d : Nat) : numL 0 (gD r t i j c (d + 1)) ≤ 10 * numL 0 (gD r t i j c d) + 7 := by
  have h := num_place (lowD r t ++ (List.replicate c 5 ++ (midD r t ++ List.replicate d 7))) (List.replicate i 8 ++ List.replicate j 9) 7 (by simp only [List.mem_append, List.mem_replicate]; omega)
  unfold gD
  rw [snocR]
  simpa only [List.append_assoc, List.singleton_append, List.cons_append, List.nil_append] using h
theorem step5 (r t i j c d : Nat) : numL 0 (gD r t i j (c + 1) d) ≤ 10 * numL 0 (gD r t i j c d) + 5 := by
  have h := num_place (lowD r t ++ List.replicate c 5) (midD r t ++ (List.replicate d 7 ++ (List.replicate i 8 ++ List.replicate j 9))) 5 (by unfold midD; intro x hx; split at hx <;> simp only [List.mem_append, List.mem_replicate, List.mem_singleton, List.not_mem_nil, false_or] at hx <;> omega)
  unfold gD
  rw [snocR]
  simpa only [List.append_assoc, List.singleton_append, List.cons_append, List.nil_append] using h
/-- The next one of the least: with one digit more. -/
def Nx (e r t i j c d : Nat) : Prop := ∃ r' t' i' j' c' d', r' < 3 ∧ t' < 2 ∧ prD r' t' i' j' c' d' = prD r t i j c d * e ∧ numL 0 (gD r' t' i' j' c' d') ≤ 10 * numL 0 (gD r t i j c d) + e
theorem midD_ok (r t : Nat) : okD (midD r t) := by
  unfold midD; intro x hx; split at hx <;> simp only [List.mem_singleton, List.not_mem_nil] at hx; omega
theorem gD_ok (r t i j c d : Nat) : okD (gD r t i j c d) := by
  intro x hx
  unfold gD at hx
  rcases List.mem_append.mp hx with h | h
  · unfold lowD at h; split at h <;> split at h <;> (try split at h) <;> simp only [List.mem_singleton, List.not_mem_nil] at h <;> omega
  · exact tail_ok c d i j _ (midD_ok r t) x h
theorem step2 (r t i j c d : Nat) (hr : r < 3) (ht : t < 2) : Nx 2 r t i j c d := by
  have hcase : (r = 0 ∨ r = 1 ∨ r = 2) ∧ (t = 0 ∨ t = 1) := by omega
  obtain ⟨hr1, ht1⟩ := hcase
  rcases hr1 with rfl | rfl | rfl <;> rcases ht1 with rfl | rfl
  · refine ⟨1, 0, i, j, c, d, by omega, by omega, by unfold prD; simp only [Nat.pow_succ, Nat.pow_zero]; grind, ?_⟩
    exact num_place [] (List.replicate c 5 ++ (midD 0 0 ++ (List.replicate d 7 ++ (List.replicate i 8 ++ List.replicate j 9)))) 2 (by simp [midD] <;> omega)
  · refine ⟨1, 1, i, j, c, d, by omega, by omega, by unfold prD; simp only [Nat.pow_succ, Nat.pow_zero]; grind, ?_⟩
    exact num_short _ _ _ (gD_ok _ _ _ _ _ _) (gD_ok _ _ _ _ _ _) (by simp [gD, lowD, midD] <;> omega) (by simp [gD, lowD, midD])
  · refine ⟨2, 0, i, j, c, d, by omega, by omega, by unfold prD; simp only [Nat.pow_succ, Nat.pow_zero]; grind, ?_⟩
    exact num_short _ _ _ (gD_ok _ _ _ _ _ _) (gD_ok _ _ _ _ _ _) (by simp [gD, lowD, midD] <;> omega) (by simp [gD, lowD, midD])
  · refine ⟨2, 1, i, j, c, d, by omega, by omega, by unfold prD; simp only [Nat.pow_succ, Nat.pow_zero]; grind, ?_⟩
    exact num_place [] (List.replicate c 5 ++ (midD 1 1 ++ (List.replicate d 7 ++ (List.replicate i 8 ++ List.replicate j 9)))) 2 (by simp [midD] <;> omega)
  · refine ⟨0, 0, (i + 1), j, c, d, by omega, by omega, by unfold prD; simp only [Nat.pow_succ, Nat.pow_zero]; grind, ?_⟩
    exact num_short _ _ _ (gD_ok _ _ _ _ _ _) (gD_ok _ _ _ _ _ _) (by simp [gD, lowD, midD] <;> omega) (by simp [gD, lowD, midD])
  · refine ⟨0, 1, (i + 1), j, c, d, by omega, by omega, by unfold prD; simp only [Nat.pow_succ, Nat.pow_zero]; grind, ?_⟩
    exact num_short _ _ _ (gD_ok _ _ _ _ _ _) (gD_ok _ _ _ _ _ _) (by simp [gD, lowD, midD] <;> omega) (by simp [gD, lowD, midD])
theorem step3 (r t i j c d : Nat) (hr : r < 3) (ht : t < 2) : Nx 3 r t i j c d := by
  have hcase : (r = 0 ∨ r = 1 ∨ r = 2) ∧ (t = 0 ∨ t = 1) := by omega
  obtain ⟨hr1, ht1⟩ := hcase
  rcases hr1 with rfl | rfl | rfl <;> rcases ht1 with rfl | rfl
  · refine ⟨0, 1, i, j, c, d, by omega, by omega, by unfold prD; simp only [Nat.pow_succ, Nat.pow_zero]; grind, ?_⟩
    exact num_place [] (List.replicate c 5 ++ (midD 0 0 ++ (List.replicate d 7 ++ (List.replicate i 8 ++ List.replicate j 9)))) 3 (by simp [midD] <;> omega)
  · refine ⟨0, 0, i, (j + 1), c, d, by omega, by omega, by unfold prD; simp only [Nat.pow_succ, Nat.pow_zero]; grind, ?_⟩
    exact num_short _ _ _ (gD_ok _ _ _ _ _ _) (gD_ok _ _ _ _ _ _) (by simp [gD, lowD, midD] <;> omega) (by simp [gD, lowD, midD])
  · refine ⟨1, 1, i, j, c, d, by omega, by omega, by unfold prD; simp only [Nat.pow_succ, Nat.pow_zero]; grind, ?_⟩
    exact num_short _ _ _ (gD_ok _ _ _ _ _ _) (gD_ok _ _ _ _ _ _) (by simp [gD, lowD, midD] <;> omega) (by simp [gD, lowD, midD])
  · refine ⟨1, 0, i, (j + 1), c, d, by omega, by omega, by unfold prD; simp only [Nat.pow_succ, Nat.pow_zero]; grind, ?_⟩
    exact num_lead 2 3 (List.replicate c 5 ++ (midD 1 0 ++ (List.replicate d 7 ++ (List.replicate i 8 ++ List.replicate (j + 1) 9)))) _ (tail_ok _ _ _ _ _ (midD_ok _ _)) (by simp [gD, lowD, midD] <;> omega) (by simp [gD, lowD, midD] <;> omega) (by simp [gD, lowD, midD])
  · refine ⟨2, 1, i, j, c, d, by omega, by omega, by unfold prD; simp only [Nat.pow_succ, Nat.pow_zero]; grind, ?_⟩
    exact num_lead 2 3 (List.replicate c 5 ++ (midD 2 1 ++ (List.replicate d 7 ++ (List.replicate i 8 ++ List.replicate j 9)))) _ (tail_ok _ _ _ _ _ (midD_ok _ _)) (by simp [gD, lowD, midD] <;> omega) (by simp [gD, lowD, midD] <;> omega) (by simp [gD, lowD, midD])
  · refine ⟨2, 0, i, (j + 1), c, d, by omega, by omega, by unfold prD; simp only [Nat.pow_succ, Nat.pow_zero]; grind, ?_⟩
    exact num_short _ _ _ (gD_ok _ _ _ _ _ _) (gD_ok _ _ _ _ _ _) (by simp [gD, lowD, midD] <;> omega) (by simp [gD, lowD, midD])
theorem step4 (r t i j c d : Nat) (hr : r < 3) (ht : t < 2) : Nx 4 r t i j c d := by
  have hcase : (r = 0 ∨ r = 1 ∨ r = 2) ∧ (t = 0 ∨ t = 1) := by omega
  obtain ⟨hr1, ht1⟩ := hcase
  rcases hr1 with rfl | rfl | rfl <;> rcases ht1 with rfl | rfl
  · refine ⟨2, 0, i, j, c, d, by omega, by omega, by unfold prD; simp only [Nat.pow_succ, Nat.pow_zero]; grind, ?_⟩
    exact num_place [] (List.replicate c 5 ++ (midD 0 0 ++ (List.replicate d 7 ++ (List.replicate i 8 ++ List.replicate j 9)))) 4 (by simp [midD] <;> omega)
  · refine ⟨2, 1, i, j, c, d, by omega, by omega, by unfold prD; simp only [Nat.pow_succ, Nat.pow_zero]; grind, ?_⟩
    exact num_lead 2 4 (List.replicate c 5 ++ (midD 2 1 ++ (List.replicate d 7 ++ (List.replicate i 8 ++ List.replicate j 9)))) _ (tail_ok _ _ _ _ _ (midD_ok _ _)) (by simp [gD, lowD, midD] <;> omega) (by simp [gD, lowD, midD] <;> omega) (by simp [gD, lowD, midD])
  · refine ⟨0, 0, (i + 1), j, c, d, by omega, by omega, by unfold prD; simp only [Nat.pow_succ, Nat.pow_zero]; grind, ?_⟩
    exact num_short _ _ _ (gD_ok _ _ _ _ _ _) (gD_ok _ _ _ _ _ _) (by simp [gD, lowD, midD] <;> omega) (by simp [gD, lowD, midD])
  · refine ⟨0, 1, (i + 1), j, c, d, by omega, by omega, by unfold prD; simp only [Nat.pow_succ, Nat.pow_zero]; grind, ?_⟩
    exact num_lead 3 4 (List.replicate c 5 ++ (midD 0 1 ++ (List.replicate d 7 ++ (List.replicate (i + 1) 8 ++ List.replicate j 9)))) _ (tail_ok _ _ _ _ _ (midD_ok _ _)) (by simp [gD, lowD, midD] <;> omega) (by simp [gD, lowD, midD] <;> omega) (by simp [gD, lowD, midD])
  · refine ⟨1, 0, (i + 1), j, c, d, by omega, by omega, by unfold prD; simp only [Nat.pow_succ, Nat.pow_zero]; grind, ?_⟩
    exact num_lead 2 4 (List.replicate c 5 ++ (midD 1 0 ++ (List.replicate d 7 ++ (List.replicate (i + 1) 8 ++ List.replicate j 9)))) _ (tail_ok _ _ _ _ _ (midD_ok _ _)) (by simp [gD, lowD, midD] <;> omega) (by simp [gD, lowD, midD] <;> omega) (by simp [gD, lowD, midD])
  · refine ⟨1, 1, (i + 1), j, c, d, by omega, by omega, by unfold prD; simp only [Nat.pow_succ, Nat.pow_zero]; grind, ?_⟩
    exact num_short _ _ _ (gD_ok _ _ _ _ _ _) (gD_ok _ _ _ _ _ _) (by simp [gD, lowD, midD] <;> omega) (by simp [gD, lowD, midD])
theorem step6 (r t i j c d : Nat) (hr : r < 3) (ht : t < 2) : Nx 6 r t i j c d := by
  have hcase : (r = 0 ∨ r = 1 ∨ r = 2) ∧ (t = 0 ∨ t = 1) := by omega
  obtain ⟨hr1, ht1⟩ := hcase
  rcases hr1 with rfl | rfl | rfl <;> rcases ht1 with rfl | rfl
  · refine ⟨1, 1, i, j, c, d, by omega, by omega, by unfold prD; simp only [Nat.pow_succ, Nat.pow_zero]; grind, ?_⟩
    have h := num_place (lowD 0 0 ++ List.replicate c 5) (List.replicate d 7 ++ (List.replicate i 8 ++ List.replicate j 9)) 6 (by simp only [List.mem_append, List.mem_replicate]; omega)
    simpa [gD, lowD, midD] using h
  · refine ⟨1, 0, i, (j + 1), c, d, by omega, by omega, by unfold prD; simp only [Nat.pow_succ, Nat.pow_zero]; grind, ?_⟩
    exact num_lead 2 6 (List.replicate c 5 ++ (midD 1 0 ++ (List.replicate d 7 ++ (List.replicate i 8 ++ List.replicate (j + 1) 9)))) _ (tail_ok _ _ _ _ _ (midD_ok _ _)) (by simp [gD, lowD, midD] <;> omega) (by simp [gD, lowD, midD] <;> omega) (by simp [gD, lowD, midD])
  · refine ⟨2, 1, i, j, c, d, by omega, by omega, by unfold prD; simp only [Nat.pow_succ, Nat.pow_zero]; grind, ?_⟩
    have h := num_place (lowD 1 0 ++ List.replicate c 5) (List.replicate d 7 ++ (List.replicate i 8 ++ List.replicate j 9)) 6 (by simp only [List.mem_append, List.mem_replicate]; omega)
    simpa [gD, lowD, midD] using h
  · refine ⟨2, 0, i, (j + 1), c, d, by omega, by omega, by unfold prD; simp only [Nat.pow_succ, Nat.pow_zero]; grind, ?_⟩
    exact num_lead 4 6 (List.replicate c 5 ++ (midD 2 0 ++ (List.replicate d 7 ++ (List.replicate i 8 ++ List.replicate (j + 1) 9)))) _ (tail_ok _ _ _ _ _ (midD_ok _ _)) (by simp [gD, lowD, midD] <;> omega) (by simp [gD, lowD, midD] <;> omega) (by simp [gD, lowD, midD])
  · refine ⟨0, 1, (i + 1), j, c, d, by omega, by omega, by unfold prD; simp only [Nat.pow_succ, Nat.pow_zero]; grind, ?_⟩
    exact num_lead 3 6 (List.replicate c 5 ++ (midD 0 1 ++ (List.replicate d 7 ++ (List.replicate (i + 1) 8 ++ List.replicate j 9)))) _ (tail_ok _ _ _ _ _ (midD_ok _ _)) (by simp [gD, lowD, midD] <;> omega) (by simp [gD, lowD, midD] <;> omega) (by simp [gD, lowD, midD])
  · refine ⟨0, 0, (i + 1), (j + 1), c, d, by omega, by omega, by unfold prD; simp only [Nat.pow_succ, Nat.pow_zero]; grind, ?_⟩
    exact num_short _ _ _ (gD_ok _ _ _ _ _ _) (gD_ok _ _ _ _ _ _) (by simp [gD, lowD, midD] <;> omega) (by simp [gD, lowD, midD])
/-- Digits in any order with a product: the least number of it is no greater. -/
theorem gD_least : ∀ (n : Nat) (l : List Nat), l.length = n → okD l → ∃ r t i j c d, r < 3 ∧ t < 2 ∧ prD r t i j c d = lpN l ∧ numL 0 (gD r t i j c d) ≤ numL 0 l := by
  intro n
  induction n with
  | zero =>
    intro l hl _
    have : l = [] := List.eq_nil_of_length_eq_zero hl
    subst this
    exact ⟨0, 0, 0, 0, 0, 0, by omega, by omega, by decide, by decide⟩
  | succ n ih =>
    intro l hl h
    rcases List.eq_nil_or_concat l with rfl | ⟨m, e, rfl⟩
    · simp at hl
    · rw [List.concat_eq_append] at hl h ⊢
      obtain ⟨r, t, i, j, c, d, hr, ht, hp, hv⟩ := ih m (by simpa using hl) (fun x hx => h x (List.mem_append_left _ hx))
      have he := h e (List.mem_append_right _ List.mem_cons_self)
      rw [lpN_append, numL_snoc]
      have hlp : lpN [e] = e := by simp [lpN]
      rw [hlp, ← hp]
      have key : Nx e r t i j c d := by
        have : e = 1 ∨ e = 2 ∨ e = 3 ∨ e = 4 ∨ e = 5 ∨ e = 6 ∨ e = 7 ∨ e = 8 ∨ e = 9 := by omega
        rcases this with rfl | rfl | rfl | rfl | rfl | rfl | rfl | rfl | rfl
        · exact ⟨r, t, i, j, c, d, hr, ht, by omega, by omega⟩
        · exact step2 r t i j c d hr ht
        · exact step3 r t i j c d hr ht
        · exact step4 r t i j c d hr ht
        · exact ⟨r, t, i, j, c + 1, d, hr, ht, by unfold prD; simp only [Nat.pow_succ]; grind, step5 r t i j c d⟩
        · exact step6 r t i j c d hr ht
        · exact ⟨r, t, i, j, c, d + 1, hr, ht, by unfold prD; simp only [Nat.pow_succ]; grind, step7 r t i j c d⟩
        · exact ⟨r, t, i + 1, j, c, d, hr, ht, by unfold prD; simp only [Nat.pow_succ]; grind, step8 r t i j c d⟩
        · exact ⟨r, t, i, j + 1, c, d, hr, ht, by unfold prD; simp only [Nat.pow_succ]; grind, step9 r t i j c d⟩
      obtain ⟨r', t', i', j', c', d', a1, a2, a3, a4⟩ := key
      exact ⟨r', t', i', j', c', d', a1, a2, a3, by omega⟩
theorem nz_pow (p q : Nat) (hq : ∀ x, x % p ≠ 0 → x * q % p ≠ 0) (x n : Nat) (hx : x % p ≠ 0) : x * q ^ n % p ≠ 0 := by
  induction n with
  | zero => simpa using hx
  | succ n ih => rw [Nat.pow_succ, ← Nat.mul_assoc]; exact hq _ ih
/-- What is left of a product when the greatest digits are taken off. -/
theorem no9 (r t i c d : Nat) (hr : r < 3) (ht : t < 2) : prD r t i 0 c d % 9 ≠ 0 := by
  have h1 : 1 * 2 ^ r * 5 ^ c * 7 ^ d * 8 ^ i % 3 ≠ 0 :=
    nz_pow 3 8 (by omega) _ i (nz_pow 3 7 (by omega) _ d (nz_pow 3 5 (by omega) _ c (nz_pow 3 2 (by omega) 1 r (by decide))))
  have e : prD r t i 0 c d = 1 * 2 ^ r * 5 ^ c * 7 ^ d * 8 ^ i * 3 ^ t := by unfold prD; grind
  rw [e]
  generalize 1 * 2 ^ r * 5 ^ c * 7 ^ d * 8 ^ i = X at h1
  have : t = 0 ∨ t = 1 := by omega
  rcases this with rfl | rfl <;> omega
theorem no8 (r t c d : Nat) (hr : r < 3) (ht : t < 2) : prD r t 0 0 c d % 8 ≠ 0 := by
  have h1 : 1 * 3 ^ t * 5 ^ c * 7 ^ d % 2 ≠ 0 :=
    nz_pow 2 7 (by omega) _ d (nz_pow 2 5 (by omega) _ c (nz_pow 2 3 (by omega) 1 t (by decide)))
  have e : prD r t 0 0 c d = 1 * 3 ^ t * 5 ^ c * 7 ^ d * 2 ^ r := by unfold prD; grind
  rw [e]
  generalize 1 * 3 ^ t * 5 ^ c * 7 ^ d = X at h1
  have : r = 0 ∨ r = 1 ∨ r = 2 := by omega
  rcases this with rfl | rfl | rfl <;> omega
theorem no7 (r t c : Nat) : prD r t 0 0 c 0 % 7 ≠ 0 := by
  have h1 : 1 * 3 ^ t * 5 ^ c * 2 ^ r % 7 ≠ 0 :=
    nz_pow 7 2 (by omega) _ r (nz_pow 7 5 (by omega) _ c (nz_pow 7 3 (by omega) 1 t (by decide)))
  have e : prD r t 0 0 c 0 = 1 * 3 ^ t * 5 ^ c * 2 ^ r := by unfold prD; grind
  rwa [e]
theorem no6 (r t c : Nat) (hr : r < 3) (ht : t < 2) (h : r = 0 ∨ t = 0) : prD r t 0 0 c 0 % 6 ≠ 0 := by
  have h2 : 1 * 3 ^ t * 5 ^ c % 2 ≠ 0 := nz_pow 2 5 (by omega) _ c (nz_pow 2 3 (by omega) 1 t (by decide))
  have h3 : 1 * 2 ^ r * 5 ^ c % 3 ≠ 0 := nz_pow 3 5 (by omega) _ c (nz_pow 3 2 (by omega) 1 r (by decide))
  rcases h with rfl | rfl
  · have e : prD 0 t 0 0 c 0 = 1 * 3 ^ t * 5 ^ c := by unfold prD; grind
    rw [e]; omega
  · have e : prD r 0 0 0 c 0 = 1 * 2 ^ r * 5 ^ c := by unfold prD; grind
    rw [e]; omega
theorem no5 (r t : Nat) : prD r t 0 0 0 0 % 5 ≠ 0 := by
  have h1 : 1 * 3 ^ t * 2 ^ r % 5 ≠ 0 := nz_pow 5 2 (by omega) _ r (nz_pow 5 3 (by omega) 1 t (by decide))
  have e : prD r t 0 0 0 0 = 1 * 3 ^ t * 2 ^ r := by unfold prD; grind
  rwa [e]

/-! ### texts of digits (without the tickets' own words) -/
abbrev mkB (l : List UInt8) : ByteArray := ⟨l.toArray⟩
theorem p10n (k : Nat) : 0 < 10 ^ k := Nat.pow_pos (by decide)
theorem son (l : List UInt8) : strOfNums (l.map fun b => (b.toNat : Int)) = (⟨l.toArray⟩ : ByteArray) := by
  unfold strOfNums
  congr 2
  rw [List.map_map, show ((fun n : Int => UInt8.ofNat n.toNat) ∘ fun b : UInt8 => (b.toNat : Int)) = id from funext fun b => by simp, List.map_id]

/-! ### texts of digits -/
abbrev mkT (j b : Nat) : ByteArray := ⟨(pad j b).toArray⟩
theorem T_size (j b : Nat) : (mkT j b).size = j := by rw [mk_size, pad_length]
theorem T_list (j b : Nat) : (mkT j b).data.toList = pad j b := list_of _
theorem T_ext0 (j b i : Nat) (h : i ≤ j) : (mkT j b).extract 0 i = mkT i (b / 10 ^ (j - i)) := by
  refine of_list ?_
  rw [take_list _ i (by rw [T_size]; exact h), T_list]
  have := pad_take i (j - i) b
  rw [show i + (j - i) = j by omega] at this
  exact this
theorem T_ext1 (j b i : Nat) (h : i ≤ j) : (mkT j b).extract i j = mkT (j - i) (b % 10 ^ (j - i)) := by
  have e : (mkT j b).extract i j = (mkT j b).extract i (mkT j b).size := by rw [T_size]
  rw [e]
  refine of_list ?_
  rw [drop_list _ i, T_list]
  have := pad_drop (j - i) i b
  rw [show i + (j - i) = j by omega] at this
  exact this
theorem T_bt (j b i : Nat) (h : i < j) : bt (mkT j b) (i : Int) = 48 + ((b / 10 ^ (j - 1 - i) % 10 : Nat) : Int) := by
  have hl : i < (mkT j b).data.toList.length := by rw [T_list, pad_length]; exact h
  rw [bt_get _ i hl, List.getElem_of_eq (T_list j b) hl, pad_get j b i (by rw [pad_length]; exact h), dch_nat (Nat.mod_lt _ (by decide))]; omega
theorem T_empty : (⟨#[]⟩ : ByteArray) = mkT 0 0 := rfl
theorem pre_step (n m i : Nat) (hi : i < n) : m / 10 ^ (n - (i + 1)) = 10 * (m / 10 ^ (n - i)) + m / 10 ^ (n - 1 - i) % 10 := by
  rw [show n - i = (n - 1 - i) + 1 by omega, show n - (i + 1) = n - 1 - i by omega, Nat.pow_succ, ← Nat.div_div_eq_div_mul]
  omega
theorem pre_lt (n m i : Nat) (hi : i ≤ n) (hm : m < 10 ^ n) : m / 10 ^ (n - i) < 10 ^ i := by
  rw [Nat.div_lt_iff_lt_mul (p10n _), ← Nat.pow_add, show i + (n - i) = n by omega]; exact hm

theorem num_loop (n m : Nat) (hn : n ≤ 12) (hm : m < 10 ^ n) : ∀ d i : Nat, i + d = n → Ev (fun k => impl_numberOf.l0 k (mkT n m) ((m / 10 ^ (n - i) : Nat) : Int) (n : Int) (i : Int)) (m : Int) := by
  intro d
  induction d with
  | zero =>
    intro i hi
    obtain rfl : i = n := by omega
    refine ev_succ ?_
    simp only [impl_numberOf.l0]
    exact ev_neg (by omega) (ev_eq fun _ => by simp)
  | succ d ih =>
    intro i hi
    have hp := pre_lt n m i (by omega) hm
    have h12 : (10 : Nat) ^ i ≤ 10 ^ 12 := Nat.pow_le_pow_right (by decide) (by omega)
    have ht := Nat.mod_lt (m / 10 ^ (n - 1 - i)) (by decide : 0 < 10)
    have hn2 := ih (i + 1) (by omega)
    rw [pre_step n m i (by omega)] at hn2
    refine ev_succ ?_
    simp only [impl_numberOf.l0]
    rw [T_size, T_bt _ _ _ (by omega), wrap_nat (by omega)]
    generalize m / 10 ^ (n - i) = p at *
    generalize m / 10 ^ (n - 1 - i) % 10 = t at *
    rw [ show (48 + (t : Int) - 48) % 256 = (t : Int) by omega, wrap_of (x := 10 * (p : Int)) (by omega) (by omega), wrap_of (by omega) (by omega)]
    refine ev_pos (by omega) (ev_pos (by omega) (ev_pos (by omega) ?_))
    rw [show 10 * (p : Int) + (t : Int) = ((10 * p + t : Nat) : Int) by omega]
    exact hn2
theorem numberOf_T (n m : Nat) (hn : n ≤ 12) (hm : m < 10 ^ n) : Ev (fun k => impl_numberOf.f k (mkT n m)) (m : Int) := by
  unfold impl_numberOf.f
  rw [T_size]
  have := num_loop n m hn hm n 0 (by omega)
  rw [Nat.sub_zero, Nat.div_eq_of_lt hm] at this
  exact this

/-! ### the least text of a sum; first lucky ones -/
def lv : Nat → Nat → Nat
  | 0, _ => 0
  | k + 1, s => 10 * lv k (s - 9) + min s 9
def cl (s j : Nat) : Nat := min (s - 9 * j) 9
theorem lv_lt (k : Nat) : ∀ s, lv k s < 10 ^ k := by
  induction k with
  | zero => intro s; simp [lv]
  | succ k ih => intro s; simp only [lv]; have := ih (s - 9); rw [Nat.pow_succ]; omega
theorem lv_div (j : Nat) : ∀ n s, lv (n + j) s / 10 ^ j = lv n (s - 9 * j) := by
  induction j with
  | zero => intro n s; simp
  | succ j ih =>
    intro n s
    rw [Nat.pow_succ, Nat.mul_comm, ← Nat.div_div_eq_div_mul, show n + (j + 1) = (n + j) + 1 by omega]
    have e : lv (n + j + 1) s / 10 = lv (n + j) (s - 9) := by simp only [lv]; omega
    rw [e, ih]
    congr 1; omega
theorem lv_next (n s j : Nat) (h : j < n) : lv n s / 10 ^ j = 10 * (lv n s / 10 ^ (j + 1)) + cl s j := by
  obtain ⟨m, rfl⟩ : ∃ m, n = (m + 1) + j := ⟨n - 1 - j, by omega⟩
  rw [lv_div j (m + 1) s, show m + 1 + j = m + (j + 1) by omega, lv_div (j + 1) m s]
  simp only [lv, cl]
  rw [show s - 9 * j - 9 = s - 9 * (j + 1) by omega]
theorem ds_lv (k : Nat) : ∀ s : Nat, ds (lv k s) = ((min s (9 * k) : Nat) : Int) := by
  induction k with
  | zero => intro s; simp [lv, ds_small]
  | succ k ih => intro s; simp only [lv]; rw [ds_cons _ _ (by omega), ih]; omega
theorem lv_step (k : Nat) : ∀ t, t + 1 ≤ 9 * k → lv k t + 1 ≤ lv k (t + 1) := by
  induction k with
  | zero => intro t h; omega
  | succ k ih =>
    intro t h
    simp only [lv]
    by_cases c : t < 9
    · rw [show t - 9 = 0 by omega, show t + 1 - 9 = 0 by omega]; omega
    · have := ih (t - 9) (by omega)
      rw [show t + 1 - 9 = t - 9 + 1 by omega]; omega
theorem lv_mono (k t : Nat) : ∀ d, t + d ≤ 9 * k → lv k t + d ≤ lv k (t + d) := by
  intro d
  induction d with
  | zero => intro _; simp
  | succ d ih => intro h; have := ih (by omega); have := lv_step k (t + d) (by omega); rw [show t + (d + 1) = t + d + 1 by omega]; omega
theorem ds_le_self (n : Nat) : ds n ≤ n := by
  induction n using Nat.strongRecOn with
  | _ n ih =>
    by_cases c : n < 10
    · rw [ds_small c]; omega
    · rw [ds_step]; have := ih (n / 10) (by omega); omega
theorem lv_zero (k : Nat) : lv k 0 = 0 := by
  induction k with
  | zero => rfl
  | succ k ih => simp [lv, ih]
theorem lv_min (k : Nat) : ∀ n s : Nat, n < 10 ^ k → ds n = (s : Int) → lv k s ≤ n := by
  induction k with
  | zero => intro n s _ _; simp [lv]
  | succ k ih =>
    intro n s hn hd
    have ha : n / 10 < 10 ^ k := by rw [Nat.pow_succ] at hn; omega
    have h1 := ds_step n
    have h2 := ds_nonneg (n / 10)
    have h3 := ds_le k (n / 10) ha
    have h4 := ds_le_self (n / 10)
    have hi := ih (n / 10) (s - n % 10) ha (by omega)
    simp only [lv]
    by_cases c : s < 9
    · rw [show s - 9 = 0 by omega, lv_zero]; omega
    · by_cases c2 : n % 10 = 9
      · rw [c2] at hi; omega
      · have := lv_mono k (s - 9) (9 - n % 10) (by omega)
        rw [show s - 9 + (9 - n % 10) = s - n % 10 by omega] at this
        omega
theorem T_app (a x : Nat) : ∀ b y, y < 10 ^ b → pad a x ++ pad b y = pad (a + b) (x * 10 ^ b + y) := by
  intro b
  induction b with
  | zero => intro y h; have : y = 0 := by simpa using h
            subst this; simp [pad]
  | succ b ih =>
    intro y h
    have hy : y / 10 < 10 ^ b := by rw [Nat.pow_succ] at h; omega
    rw [← Nat.add_assoc]
    simp only [pad]
    rw [← List.append_assoc, ih _ hy]
    have e1 : (x * 10 ^ (b + 1) + y) / 10 = x * 10 ^ b + y / 10 := by rw [Nat.pow_succ, ← Nat.mul_assoc]; omega
    have e2 : (x * 10 ^ (b + 1) + y) % 10 = y % 10 := by rw [Nat.pow_succ, ← Nat.mul_assoc]; omega
    rw [e1, e2]
theorem tab_snoc (n : Nat) (f : Nat → Int) : tab (n + 1) f = tab n f ++ [f n] := by unfold tab; rw [List.range_succ]; simp
theorem least_list (n : Nat) : ∀ s, (tab n fun p => 48 + ((cl s (n - 1 - p) : Nat) : Int)) = (pad n (lv n s)).map fun b => (b.toNat : Int) := by
  induction n with
  | zero => intro s; rfl
  | succ n ih =>
    intro s
    rw [tab_snoc]
    simp only [pad, lv]
    rw [show (10 * lv n (s - 9) + min s 9) / 10 = lv n (s - 9) by omega, show (10 * lv n (s - 9) + min s 9) % 10 = min s 9 by omega, List.map_append, ← ih (s - 9)]
    congr 1
    · refine tab_congr (fun p hp => ?_)
      unfold cl
      omega
    · simp only [List.map_cons, List.map_nil]
      rw [dch_nat (by omega)]
      unfold cl
      congr 1; omega
theorem ileast_loop (n s : Nat) (hn : n ≤ 100) (hs : s ≤ 1000) : ∀ e j : Nat, j + e = n →
    Ev (fun k => impl_leastText.l0 k ((s - 9 * j : Nat) : Int) (tab n fun p => if n - j ≤ p then 48 + ((cl s (n - 1 - p) : Nat) : Int) else 0) ((n : Int) - 1 - j)) (mkT n (lv n s)) := by
  intro e
  induction e with
  | zero =>
    intro j hj
    refine ev_succ ?_
    simp only [impl_leastText.l0]
    refine ev_neg (by omega) (ev_eq fun _ => ?_)
    have e1 : (tab n fun p => if n - j ≤ p then 48 + ((cl s (n - 1 - p) : Nat) : Int) else 0) = tab n fun p => 48 + ((cl s (n - 1 - p) : Nat) : Int) := tab_congr (fun p _ => if_pos (by omega))
    rw [e1, least_list, son]
  | succ e ih =>
    intro j hj
    have hmn : mn ((s - 9 * j : Nat) : Int) 9 = ((cl s j : Nat) : Int) := by unfold mn cl; first | omega | (split <;> omega)
    have hc9 : cl s j ≤ 9 := by unfold cl; omega
    refine ev_succ ?_
    simp only [impl_leastText.l0]
    rw [hmn, tab_len, show ((n : Int) - 1 - j).toNat = n - 1 - j by omega, tab_set]
    have w1 : wrap64 (((s - 9 * j : Nat) : Int) - ((cl s j : Nat) : Int)) = ((s - 9 * (j + 1) : Nat) : Int) := by rw [wrap_of (by omega) (by omega)]; unfold cl; omega
    have w2 : wrap64 ((n : Int) - 1 - j - 1) = (n : Int) - 1 - ((j + 1 : Nat) : Int) := by rw [wrap_of (by omega) (by omega)]; omega
    have w3 : wrap64 (48 + ((cl s j : Nat) : Int)) % 256 = 48 + ((cl s j : Nat) : Int) := by rw [wrap_of (by omega) (by omega)]; omega
    have e2 : (tab n fun i => if i = n - 1 - j then wrap64 (48 + ((cl s j : Nat) : Int)) % 256 else if n - j ≤ i then 48 + ((cl s (n - 1 - i) : Nat) : Int) else 0) = tab n fun p => if n - (j + 1) ≤ p then 48 + ((cl s (n - 1 - p) : Nat) : Int) else 0 := by
      refine tab_congr (fun p hp => ?_)
      by_cases c : p = n - 1 - j
      · rw [if_pos c, if_pos (by omega), w3, show n - 1 - p = j by omega]
      · rw [if_neg c]
        by_cases c2 : n - j ≤ p
        · rw [if_pos c2, if_pos (by omega)]
        · rw [if_neg c2, if_neg (by omega)]
    rw [w1, w2, e2]
    exact ev_pos (by omega) (ev_pos (by omega) (ev_pos (by omega) (ih (j + 1) (by omega))))
theorem ileast_ev (n s : Nat) (hn : n ≤ 100) (hs : s ≤ 1000) : Ev (fun k => impl_leastText.f k (n : Int) (s : Int)) (mkT n (lv n s)) := by
  have := ileast_loop n s hn hs n 0 (by omega)
  have e1 : (tab n fun p => if n - 0 ≤ p then 48 + ((cl s (n - 1 - p) : Nat) : Int) else 0) = List.replicate n 0 := by rw [tab_zero]; exact tab_congr (fun p hp => if_neg (by omega))
  rw [e1, Nat.mul_zero, Nat.sub_zero] at this
  unfold impl_leastText.f
  rw [Int.toNat_natCast, wrap_of (by omega) (by omega)]
  refine ev_pos (by omega) (ev_pos (by omega) ?_)
  have e : (n : Int) - 1 - ((0 : Nat) : Int) = (n : Int) - 1 := by omega
  rw [e] at this
  exact this

/-! ### how many numbers of so many digits have a sum: the reference's table -/
def TG (G : Int → Int) (d0 : Nat) (s i : Int) : Nat → Int
  | 0 => 0
  | m + 1 => TG G d0 s i m + if d0 ≤ m ∧ s ≤ i - m then G (i - m) else 0
theorem TG_nonneg {G : Int → Int} (hG : ∀ x, 0 ≤ G x) (d0 : Nat) (s i : Int) (m : Nat) : 0 ≤ TG G d0 s i m := by
  induction m with
  | zero => exact Int.le_refl _
  | succ m ih => simp only [TG]; have := hG (i - m); split <;> omega
theorem TG_step (G : Int → Int) (d0 : Nat) (s i : Int) (m : Nat) : TG G d0 s i m = TG G d0 (s + 1) i m + if s + d0 ≤ i ∧ i < s + m then G s else 0 := by
  induction m with
  | zero => simp only [TG]; rw [if_neg (by omega)]; try rfl
  | succ m ih =>
    simp only [TG]
    rw [ih]
    by_cases h : i - m = s
    · rw [h]
      rw [if_neg (show ¬ (s + d0 ≤ i ∧ i < s + m) by omega)]
      by_cases c : d0 ≤ m
      · rw [if_pos (by omega), if_neg (by omega), if_pos (by omega)]; try omega
      · rw [if_neg (by omega), if_neg (by omega), if_neg (by omega)]; try omega
    · by_cases c : s + d0 ≤ i ∧ i < s + m
      · rw [if_pos c, if_pos (show s + (d0 : Int) ≤ i ∧ i < s + ((m + 1 : Nat) : Int) by omega)]
        by_cases d : d0 ≤ m ∧ s ≤ i - m
        · rw [if_pos d, if_pos (by omega)]; omega
        · rw [if_neg d, if_neg (by omega)]; omega
      · rw [if_neg c, if_neg (show ¬ (s + (d0 : Int) ≤ i ∧ i < s + ((m + 1 : Nat) : Int)) by omega)]
        by_cases d : d0 ≤ m ∧ s ≤ i - m
        · rw [if_pos d, if_pos (by omega)]; omega
        · rw [if_neg d, if_neg (by omega)]; try omega
theorem TG_end (G : Int → Int) (d0 : Nat) (s i : Int) (m : Nat) (h : i < s) : TG G d0 s i m = 0 := by
  induction m with
  | zero => rfl
  | succ m ih => simp only [TG]; rw [ih, if_neg (by omega)]; try rfl
theorem W_up (k : Nat) (s : Int) : W k s ≤ W (k + 1) s := by
  have h := fun x => W_nonneg k x
  simp only [W]
  have h1 := h (s - 1); have h2 := h (s - 2); have h3 := h (s - 3); have h4 := h (s - 4); have h5 := h (s - 5); have h6 := h (s - 6); have h7 := h (s - 7); have h8 := h (s - 8); have h9 := h (s - 9)
  omega
/-- What the table holds behind so many rounds. -/
def GL (d : Nat) : Nat → Int → Int
  | 0, v => W 0 v
  | l + 1, v => if d = 1 then W (l + 1) v else W (l + 1) v - W l v
theorem GL_nonneg (d l : Nat) (v : Int) : 0 ≤ GL d l v := by
  cases l with
  | zero => exact W_nonneg 0 v
  | succ l => simp only [GL]; have := W_up l v; have := W_nonneg (l + 1) v; split <;> omega
theorem GL_le (d l : Nat) (hl : l ≤ 12) (v : Int) : GL d l v ≤ 1000000000000 := by
  have key : ∀ q, q ≤ 12 → W q v ≤ 1000000000000 := fun q hq => by
    have h1 := W_le q v
    have h2 : (10 : Int) ^ q ≤ 10 ^ 12 := p10_le hq
    omega
  cases l with
  | zero => exact key 0 (by omega)
  | succ l => simp only [GL]; have := key (l + 1) hl; have := W_nonneg l v; split <;> omega
theorem GL_neg (d l : Nat) (v : Int) (h : v < 0) : GL d l v = 0 := by
  cases l with
  | zero => exact W_neg 0 v h
  | succ l => simp only [GL]; rw [W_neg _ v h, W_neg _ v h]; split <;> rfl
def D0 (d l : Nat) : Nat := if 0 < l ∨ d = 1 then 0 else 1
theorem GL_next (d l : Nat) (hd : d = 1 → l = 0) (i : Int) : TG (GL d l) (D0 d l) 0 i 10 = GL d (l + 1) i := by
  have e : ∀ x : Int, (if (0 : Int) ≤ x then GL d l x else 0) = GL d l x := fun x => by
    by_cases c : 0 ≤ x
    · rw [if_pos c]
    · rw [if_neg c, GL_neg d l x (by omega)]
  by_cases c : 0 < l ∨ d = 1
  · have hD : D0 d l = 0 := if_pos c
    rw [hD]
    simp only [TG, Nat.zero_le, true_and, e]
    by_cases c1 : d = 1
    · obtain rfl := hd c1
      simp only [GL, if_pos c1, W]
      simp
    · cases l with
      | zero => omega
      | succ l =>
        simp only [GL, if_neg c1]
        simp only [W]
        simp
        omega
  · have hD : D0 d l = 1 := if_neg c
    have hl : l = 0 := by omega
    subst hl
    have c1 : d ≠ 1 := by omega
    rw [hD]
    simp only [TG]
    simp only [e, show ¬ (1 ≤ 0) by omega, false_and, if_false, show (1 ≤ 1) by omega, show (1 ≤ 2) by omega, show (1 ≤ 3) by omega, show (1 ≤ 4) by omega, show (1 ≤ 5) by omega, show (1 ≤ 6) by omega, show (1 ≤ 7) by omega, show (1 ≤ 8) by omega, show (1 ≤ 9) by omega, true_and]
    simp only [GL, if_neg c1, W]
    simp
    omega
def tb (S : Nat) (g : Nat → Int) : List Int := tab (S + 1) g
theorem cod_l2 (d S l s : Nat) (n : Int) (x33 : List Int) (x34 x35 : Int) (hS : S ≤ 108) (hs : s ≤ S) (hd : 1 ≤ d) (hn : 0 ≤ n) (hn2 : n ≤ 1000000000000) (r : Int × Bool) :
    ∀ (e m : Nat) (g : Nat → Int), m + e = 10 → (∀ i, s + m ≤ i → 0 ≤ g i ∧ g i ≤ 1000000000000) →
      Ev (fun k => spec_CountOfDigits.l1 k (d : Int) (S : Int) (l : Int) (tab (S + 1) (fun i => if s + m ≤ i ∧ s + D0 d l ≤ i ∧ i < s + 10 then g i + n else g i)) x33 x34 (wrap64 (x35 + 1))) r →
      Ev (fun k => spec_CountOfDigits.l2 k (d : Int) (S : Int) (l : Int) (tab (S + 1) g) (s : Int) n (m : Int) x33 x34 x35) r := by
  intro e
  induction e with
  | zero =>
    intro m g hm hg h
    refine ev_succ ?_
    simp only [spec_CountOfDigits.l2]
    refine ev_neg (by omega) (ev_succ ?_)
    simp only [spec_CountOfDigits.j4]
    refine ev_neg (by simp) ?_
    have : (tab (S + 1) fun i => if s + m ≤ i ∧ s + D0 d l ≤ i ∧ i < s + 10 then g i + n else g i) = tab (S + 1) g := tab_congr (fun i _ => if_neg (by omega))
    rw [this] at h
    exact h
  | succ e ih =>
    intro m g hm hg h
    refine ev_succ ?_
    simp only [spec_CountOfDigits.l2]
    refine ev_pos (by omega) ?_
    have hw : wrap64 ((s : Int) + m) = ((s + m : Nat) : Int) := by rw [wrap_of (by omega) (by omega)]; omega
    rw [hw]
    refine ev_succ ?_
    simp only [spec_CountOfDigits.j4]
    by_cases c : s + m ≤ S
    · refine ev_pos (decide_eq_true (by omega)) ?_
      have hg1 := hg (s + m) (Nat.le_refl _)
      have hset : (tab (S + 1) g).set (((s + m : Nat) : Int)).toNat (wrap64 (rd (tab (S + 1) g) ((s + m : Nat) : Int) + n)) = tab (S + 1) (fun i => if i = s + m then g (s + m) + n else g i) := by
        rw [tab_rd (by omega), Int.toNat_natCast, tab_set, wrap_of (x := g (s + m) + n) (by omega) (by omega)]
      rw [hw, tab_len, hset, wrap_nat (i := m) (by omega)]
      by_cases al : D0 d l ≤ m
      · have key : Ev (fun k => spec_CountOfDigits.l2 k (d : Int) (S : Int) (l : Int) (tab (S + 1) (fun i => if i = s + m then g (s + m) + n else g i)) (s : Int) n ((m + 1 : Nat) : Int) x33 x34 x35) r := by
          refine ih (m + 1) (fun i => if i = s + m then g (s + m) + n else g i) (by omega) (fun i hi => ?_) ?_
          · rw [if_neg (by omega)]; exact hg i (by omega)
          · have : (tab (S + 1) fun i => if s + (m + 1) ≤ i ∧ s + D0 d l ≤ i ∧ i < s + 10 then (if i = s + m then g (s + m) + n else g i) + n else (if i = s + m then g (s + m) + n else g i)) = tab (S + 1) (fun i => if s + m ≤ i ∧ s + D0 d l ≤ i ∧ i < s + 10 then g i + n else g i) := by
              refine tab_congr (fun i _ => ?_)
              by_cases q : i = s + m
              · subst q
                rw [if_neg (by omega), if_pos rfl, if_pos (by omega)]
              · rw [if_neg q]
                by_cases q2 : s + m ≤ i ∧ s + D0 d l ≤ i ∧ i < s + 10
                · rw [if_pos (by omega), if_pos q2]
                · rw [if_neg (by omega), if_neg q2]
            rw [this]
            exact h
        by_cases a1 : 0 < l
        · exact ev_pos (by omega) (ev_pos (by omega) (ev_pos (by omega) key))
        · refine ev_neg (by omega) ?_
          by_cases a2 : 0 < m
          · exact ev_pos (by omega) (ev_pos (by omega) (ev_pos (by omega) key))
          · refine ev_neg (by omega) ?_
            have hd1 : d = 1 := by unfold D0 at al; split at al <;> omega
            exact ev_pos (by omega) (ev_pos (by omega) (ev_pos (by omega) key))
      · have hl : ¬ 0 < l ∧ ¬ d = 1 ∧ m = 0 := by unfold D0 at al; split at al <;> omega
        refine ev_neg (by omega) (ev_neg (by omega) (ev_neg (by omega) ?_))
        refine ih (m + 1) g (by omega) (fun i hi => hg i (by omega)) ?_
        have : (tab (S + 1) fun i => if s + (m + 1) ≤ i ∧ s + D0 d l ≤ i ∧ i < s + 10 then g i + n else g i) = (tab (S + 1) fun i => if s + m ≤ i ∧ s + D0 d l ≤ i ∧ i < s + 10 then g i + n else g i) := by
          refine tab_congr (fun i _ => ?_)
          by_cases q : s + (m + 1) ≤ i ∧ s + D0 d l ≤ i ∧ i < s + 10
          · rw [if_pos q, if_pos (by omega)]
          · rw [if_neg q, if_neg (by omega)]
        rw [this]
        exact h
    · refine ev_neg (by simp; omega) ?_
      have : (tab (S + 1) fun i => if s + m ≤ i ∧ s + D0 d l ≤ i ∧ i < s + 10 then g i + n else g i) = tab (S + 1) g := tab_congr (fun i _ => if_neg (by omega))
      rw [this] at h
      exact h
theorem cod_l1 (d S l : Nat) (hS : S ≤ 108) (hd : 1 ≤ d) (hl : l ≤ 11) (hdl : d = 1 → l = 0) (r : Int × Bool) (h : Ev (fun k => spec_CountOfDigits.l0 k (d : Int) (S : Int) (tab (S + 1) fun i => GL d (l + 1) i) (wrap64 ((l : Int) + 1))) r) :
    ∀ (e s : Nat) (g : Nat → Int), s + e = S + 1 → (∀ i : Nat, 0 ≤ g i ∧ g i + TG (GL d l) (D0 d l) s i 10 = GL d (l + 1) i) →
      Ev (fun k => spec_CountOfDigits.l1 k (d : Int) (S : Int) (l : Int) (tab (S + 1) g) (tab (S + 1) fun i => GL d l i) ((S + 1 : Nat) : Int) (s : Int)) r := by
  intro e
  induction e with
  | zero =>
    intro s g hs hg
    refine ev_succ ?_
    simp only [spec_CountOfDigits.l1]
    refine ev_neg (by omega) ?_
    have : tab (S + 1) g = tab (S + 1) fun i => GL d (l + 1) i := by
      refine tab_congr (fun i hi => ?_)
      have := (hg i).2
      rw [TG_end _ _ _ _ _ (by omega)] at this
      omega
    rw [this]
    exact h
  | succ e ih =>
    intro s g hs hg
    refine ev_succ ?_
    simp only [spec_CountOfDigits.l1]
    have hr : rd (tab (S + 1) fun i => GL d l i) (s : Int) = GL d l s := tab_rd (by omega)
    rw [tab_len, hr]
    refine ev_pos (by omega) (ev_pos (by omega) (ev_pos (by omega) ?_))
    have hT : ∀ i : Nat, 0 ≤ TG (GL d l) (D0 d l) s i 10 := fun i => TG_nonneg (GL_nonneg d l) _ _ _ _
    refine cod_l2 d S l s (GL d l s) _ _ _ hS (by omega) hd (GL_nonneg d l s) (GL_le d l (by omega) s) r 10 0 g (by omega) (fun i _ => ⟨(hg i).1, by have := (hg i).2; have := hT i; have := GL_le d (l + 1) (by omega) i; omega⟩) ?_
    rw [wrap_nat (i := s) (by omega)]
    refine ih (s + 1) _ (by omega) (fun i => ?_)
    have h1 := hg i
    have h2 := TG_step (GL d l) (D0 d l) s i 10
    have h3 : ((s + 1 : Nat) : Int) = (s : Int) + 1 := by omega
    have h4 := GL_nonneg d l s
    rw [h3]
    by_cases c : s + 0 ≤ i ∧ s + D0 d l ≤ i ∧ i < s + 10
    · rw [if_pos c]
      rw [if_pos (by omega)] at h2
      omega
    · rw [if_neg c]
      rw [if_neg (by omega)] at h2
      omega
theorem cod_l0 (d S : Nat) (hS : S ≤ 108) (hd : 1 ≤ d) (hd2 : d ≤ 12) : ∀ (e l : Nat), l + e = d →
    Ev (fun k => spec_CountOfDigits.l0 k (d : Int) (S : Int) (tab (S + 1) fun i => GL d l i) (l : Int)) (GL d d S, true) := by
  intro e
  induction e with
  | zero =>
    intro l hl
    refine ev_succ ?_
    simp only [spec_CountOfDigits.l0]
    obtain rfl : l = d := by omega
    refine ev_neg (by omega) (ev_pos (by omega) (ev_pos (by rw [tab_len]; omega) (ev_eq fun _ => ?_)))
    rw [tab_rd (by omega)]
  | succ e ih =>
    intro l hl
    refine ev_succ ?_
    simp only [spec_CountOfDigits.l0]
    rw [wrap_nat (i := S) (by omega), Int.toNat_natCast, tab_zero, tab_len]
    refine ev_pos (by omega) (ev_pos (by omega) (ev_pos (by omega) ?_))
    refine cod_l1 d S l hS hd (by omega) (fun h => by omega) _ ?_ (S + 1) 0 (fun _ => 0) (by omega) (fun i => ⟨Int.le_refl 0, ?_⟩)
    · rw [wrap_nat (i := l) (by omega)]
      exact ih (l + 1) (by omega)
    · have := GL_next d l (fun h => by omega) i
      rw [Int.zero_add]
      exact this
def CD (d : Nat) (s : Int) : Int := if d = 1 then W 1 s else W d s - W (d - 1) s
theorem CD_eq (d : Nat) (hd : 1 ≤ d) (s : Int) : GL d d s = CD d s := by
  obtain ⟨q, rfl⟩ : ∃ q, d = q + 1 := ⟨d - 1, by omega⟩
  simp only [GL, CD]
  by_cases c : q + 1 = 1
  · rw [if_pos c, if_pos c]
    obtain rfl : q = 0 := by omega
    rfl
  · rw [if_neg c, if_neg c]; rfl
theorem sCOD_in (d S : Nat) (hS : S ≤ 108) (hd : 1 ≤ d) (hd2 : d ≤ 12) : Ev (fun k => spec_CountOfDigits.f k (d : Int) (S : Int)) (CD d S, true) := by
  unfold spec_CountOfDigits.f spec_leSum.f
  rw [l1In_eq, l1In_eq]
  simp only [Option.bind_some]
  refine ev_pos (decide_eq_true (by omega)) ?_
  rw [show (!decide (0 ≤ (S : Int) ∧ (S : Int) ≤ 108)) = false by simp; omega]
  refine ev_succ ?_
  simp only [spec_CountOfDigits.j0]
  rw [wrap_nat (i := S) (by omega), Int.toNat_natCast]
  refine ev_neg (by simp) (ev_pos (by omega) (ev_pos (by omega) ?_))
  simp only [Option.bind_some]
  refine ev_pos (by simp) ?_
  have e0 : (List.replicate (S + 1) (0 : Int)).set (0 : Int).toNat 1 = tab (S + 1) fun i => GL d 0 i := by
    rw [tab_zero, Int.toNat_zero, tab_set]
    refine tab_congr (fun i hi => ?_)
    simp only [GL, W]
    by_cases c : i = 0
    · rw [if_pos c, if_pos (by omega)]
    · rw [if_neg c, if_neg (by omega)]
  rw [e0, ← CD_eq d hd]
  exact cod_l0 d S hS hd hd2 d 0 (by omega)
theorem iCOD_in (d S : Nat) (hS : S ≤ 108) (hd : 1 ≤ d) (hd2 : d ≤ 12) : Ev (fun k => impl_CountOfDigits.f k (d : Int) (S : Int)) (CD d S, true) := by
  unfold impl_CountOfDigits.f impl_isSum.f
  rw [within_eq, within_eq]
  simp only [Option.bind_some]
  refine ev_pos (decide_eq_true (by omega)) ?_
  rw [show (!decide (0 ≤ (S : Int) ∧ (S : Int) ≤ 108)) = false by simp; omega]
  refine ev_succ ?_
  simp only [impl_CountOfDigits.j0]
  refine ev_neg (by simp) ?_
  by_cases c : d = 1
  · subst c
    refine ev_pos rfl (ev_eq fun _ => ?_)
    unfold impl_bit.f
    have : CD 1 S = if (S : Int) ≤ 9 then 1 else 0 := by
      simp only [CD, if_pos, W]
      by_cases q : (S : Int) ≤ 9
      · rw [if_pos q]
        have : S = 0 ∨ S = 1 ∨ S = 2 ∨ S = 3 ∨ S = 4 ∨ S = 5 ∨ S = 6 ∨ S = 7 ∨ S = 8 ∨ S = 9 := by omega
        rcases this with rfl | rfl | rfl | rfl | rfl | rfl | rfl | rfl | rfl | rfl <;> decide
      · rw [if_neg q]
        repeat rw [if_neg (by omega)]
        rfl
    rw [this]
    by_cases q : (S : Int) ≤ 9
    · rw [decide_eq_true q, if_pos rfl, if_pos q]; rfl
    · rw [decide_eq_false q, if_neg (by simp), if_neg q]; rfl
  · have hw : wrap64 ((d : Int) - 1) = ((d - 1 : Nat) : Int) := by rw [wrap_of (by omega) (by omega)]; omega
    rw [hw]
    refine ev_neg (by omega) (Ev.bind (iways_ev d (by omega)) ?_)
    refine ev_bind (at_wl d (by omega) (S : Int)) (Ev.bind (iways_ev (d - 1) (by omega)) (ev_bind (at_wl (d - 1) (by omega) (S : Int)) (ev_eq fun _ => ?_)))
    have h1 := GL_nonneg d d S
    have h2 := GL_le d d hd2 S
    rw [CD_eq d hd] at h1 h2
    have e : CD d S = W d S - W (d - 1) S := if_neg c
    rw [e] at h1 h2 ⊢
    rw [wrap_of (by omega) (by omega)]

/-! ### the law's digit sum -/
theorem liSum_loop : ∀ (n : Nat) (a : Int), 0 ≤ a → a + ds n ≤ 1000000000 → n ≤ 9223372036854775807 → Ev (fun k => laws_iSum.l0 k (n : Int) a) (a + ds n) := by
  intro n
  induction n using Nat.strongRecOn with
  | _ n ih =>
    intro a ha hb hn
    refine ev_succ ?_
    simp only [laws_iSum.l0]
    by_cases c : n = 0
    · subst c
      refine ev_neg (by omega) (ev_eq fun _ => ?_)
      rw [ds_small (by omega)]
      try simp
    · have hst := ds_step n
      have hq := ds_nonneg (n / 10)
      have hm := Nat.mod_lt n (show 0 < 10 by omega)
      refine ev_pos (by omega) ?_
      have e1 : wrap64 (Int.tdiv (n : Int) 10) = ((n / 10 : Nat) : Int) := by
        rw [show (10 : Int) = ((10 : Nat) : Int) from rfl, tdiv_nat, wrap_of (by omega) (by omega)]
      have e2 : wrap64 (a + Int.tmod (n : Int) 10) = a + ((n % 10 : Nat) : Int) := by
        rw [show (10 : Int) = ((10 : Nat) : Int) from rfl, tmod_nat, wrap_of (by omega) (by omega)]
      rw [e1, e2]
      have := ih (n / 10) (by omega) (a + ((n % 10 : Nat) : Int)) (by omega) (by omega) (by omega)
      rw [show a + ds n = a + ((n % 10 : Nat) : Int) + ds (n / 10) by omega]
      exact this
theorem liSum_ev (n : Nat) (h : n ≤ 9223372036854775807) : Ev (fun k => laws_iSum.f k (n : Int)) (ds n) := by
  have h1 := ds_le 19 n (by omega)
  have := liSum_loop n 0 (by omega) (by omega) h
  rw [Int.zero_add] at this
  exact this

/-! ### the least number with a sum -/
theorem lv_fill (k s : Nat) (h : s ≤ 9 * k) : lv k s = fillLo k s := by
  obtain ⟨h1, h2, h3⟩ := fillLo_spec k s h
  have h4 := lv_min k (fillLo k s) s h1 h2
  have h5 := h3 (lv k s) (lv_lt k s) (by rw [ds_lv]; congr 1; omega)
  omega
theorem iLWS_in (s : Nat) (h : s ≤ 108) : Ev (fun k => impl_LeastWithSum.f k (s : Int)) ((fillLo 12 s : Int), true) := by
  unfold impl_LeastWithSum.f impl_isSum.f
  rw [within_eq]
  simp only [Option.bind_some]
  refine ev_pos (decide_eq_true (by omega)) ?_
  obtain ⟨h1, h2, h3⟩ := fillLo_spec 12 s (by omega)
  have hh := iofSum_hit (fillLo 12 s) (by omega)
  have hc : cnt (s : Int) (fillLo 12 s) = 0 := by
    rw [cnt_gap (Nat.zero_le _) (fun x _ hx hd => by have := h3 x (by omega) hd; omega)]; rfl
  rw [h2, hc, decide_eq_true (by omega)] at hh
  exact Ev.bind hh (ev_eq fun _ => rfl)
theorem sLWS_in (s : Nat) (h : s ≤ 108) : Ev (fun k => spec_LeastWithSum.f k (s : Int)) ((fillLo 12 s : Int), true) := by
  unfold spec_LeastWithSum.f spec_leSum.f
  rw [l1In_eq]
  simp only [Option.bind_some]
  refine ev_pos (decide_eq_true (by omega)) ?_
  exact Ev.bind (leFillLo_ev 12 s (by omega) (by omega)) (ev_eq fun _ => rfl)
theorem LWS_out (s : Int) (h : ¬ (0 ≤ s ∧ s ≤ 108)) : Ev (fun k => impl_LeastWithSum.f k s) (0, false) ∧ Ev (fun k => spec_LeastWithSum.f k s) (0, false) := by
  refine ⟨ev_eq fun _ => ?_, ev_eq fun _ => ?_⟩
  · unfold impl_LeastWithSum.f impl_isSum.f
    rw [within_eq]
    simp only [Option.bind_some]
    rw [if_neg (by simpa using h)]
  · unfold spec_LeastWithSum.f spec_leSum.f
    rw [l1In_eq]
    simp only [Option.bind_some]
    rw [if_neg (by simpa using h)]

/-! ### least and greatest numbers of so many digits -/
def goodD (d s : Nat) : Prop := 1 ≤ d ∧ d ≤ 12 ∧ s ≤ 9 * d ∧ (s = 0 → d = 1)
def fstD (d s : Nat) : Nat := max 1 (s - 9 * (d - 1))
def lowOf (d s : Nat) : Nat := if s = 0 then 0 else fstD d s * 10 ^ (d - 1) + fillLo (d - 1) (s - fstD d s)
theorem lowOf_spec (d s : Nat) (h : goodD d s) : lowOf d s < 10 ^ d ∧ ds (lowOf d s) = s ∧ (1 < d → 10 ^ (d - 1) ≤ lowOf d s) ∧
    ∀ m, m < 10 ^ d → (1 < d → 10 ^ (d - 1) ≤ m) → ds m = s → lowOf d s ≤ m := by
  obtain ⟨h1, h2, h3, h4⟩ := h
  obtain ⟨q, rfl⟩ : ∃ q, d = q + 1 := ⟨d - 1, by omega⟩
  unfold lowOf fstD
  simp only [Nat.add_sub_cancel]
  by_cases c : s = 0
  · subst c
    have := h4 rfl
    obtain rfl : q = 0 := by omega
    rw [if_pos rfl]
    exact ⟨by decide, by rw [ds_small (by omega)], by omega, fun m _ _ _ => Nat.zero_le m⟩
  · rw [if_neg c]
    obtain ⟨F, hF⟩ : ∃ F, F = max 1 (s - 9 * q) := ⟨_, rfl⟩
    rw [← hF]
    obtain ⟨a1, a2, a3⟩ := fillLo_spec q (s - F) (by omega)
    have hp : 10 ^ (q + 1) = 10 * 10 ^ q := by rw [Nat.pow_succ, Nat.mul_comm]
    have hF9 : F ≤ 9 := by omega
    have hm1 : F * 10 ^ q ≤ 9 * 10 ^ q := Nat.mul_le_mul_right _ hF9
    have hm2 : 1 * 10 ^ q ≤ F * 10 ^ q := Nat.mul_le_mul_right _ (by omega)
    refine ⟨by omega, ?_, fun _ => by omega, ?_⟩
    · rw [ds_join q F _ a1, a2, ds_small (by omega)]; omega
    · intro m m1 m2 m3
      have hdm := Nat.div_add_mod m (10 ^ q)
      have hlt := Nat.mod_lt m (p10n q)
      have hs := ds_split q m
      have hq9 : m / 10 ^ q ≤ 9 := by
        have : m / 10 ^ q < 10 := Nat.div_lt_of_lt_mul (by rw [Nat.mul_comm]; omega)
        omega
      have hsl := ds_le q (m % 10 ^ q) hlt
      rw [ds_small (n := m / 10 ^ q) (by omega)] at hs
      have hFle : F ≤ m / 10 ^ q := by
        by_cases e : q = 0
        · subst e
          have hz : m % 10 ^ 0 = 0 := Nat.mod_one m
          have hy : m / 10 ^ 0 = m := Nat.div_one m
          rw [hz, hy, ds_small (n := 0) (by omega)] at hs
          rw [hy]
          omega
        · have h0 : 1 ≤ m / 10 ^ q := (Nat.le_div_iff_mul_le (p10n q)).mpr (by have := m2 (by omega); omega)
          omega
      by_cases e : F = m / 10 ^ q
      · have := a3 (m % 10 ^ q) hlt (by omega)
        rw [← e, Nat.mul_comm] at hdm
        omega
      · have h5 : (F + 1) * 10 ^ q ≤ m / 10 ^ q * 10 ^ q := Nat.mul_le_mul_right _ (by omega)
        rw [Nat.add_mul] at h5
        rw [Nat.mul_comm] at hdm
        omega
theorem cnt_top (d s : Nat) (h : goodD d s) : CD d (s : Int) = cnt (s : Int) (fillHi d s + 1) - cnt (s : Int) (lowOf d s) := by
  obtain ⟨h1, h2, h3, h4⟩ := h
  obtain ⟨a1, a2, a3, a4⟩ := lowOf_spec d s ⟨h1, h2, h3, h4⟩
  obtain ⟨b1, b2, b3⟩ := fillHi_spec d s h3
  have e1 : cnt (s : Int) (10 ^ d) = cnt (s : Int) (fillHi d s + 1) := cnt_gap (by omega) (fun x hx hx2 hd => by have := b3 x hx2 hd; omega)
  rw [cnt_full] at e1
  unfold CD
  by_cases c : d = 1
  · subst c
    rw [if_pos rfl, ← e1]
    have e2 : cnt (s : Int) (lowOf 1 s) = 0 := by
      rw [cnt_gap (Nat.zero_le _) (fun x _ hx hd => by have := a4 x (by omega) (by omega) hd; omega)]; rfl
    rw [e2, Int.sub_zero]
  · rw [if_neg c, ← e1]
    have a3' := a3 (by omega)
    have e2 : cnt (s : Int) (lowOf d s) = cnt (s : Int) (10 ^ (d - 1)) := cnt_gap a3' (fun x hx hx2 hd => by have := a4 x (by omega) (fun _ => hx) hd; omega)
    rw [cnt_full] at e2
    rw [e2]
/-- Counts tell whether there is one alone. -/
theorem count_one (d s : Nat) (h : goodD d s) : lowOf d s ≤ fillHi d s ∧ 1 ≤ CD d (s : Int) ∧ (CD d (s : Int) = 1 ↔ lowOf d s = fillHi d s) := by
  obtain ⟨a1, a2, a3, a4⟩ := lowOf_spec d s h
  have e := cnt_top d s h
  obtain ⟨h1, h2, h3, h4⟩ := h
  obtain ⟨b1, b2, b3⟩ := fillHi_spec d s h3
  have hle : lowOf d s ≤ fillHi d s := b3 _ a1 a2
  have e1 := cnt_hit b2
  have e2 := cnt_hit a2
  refine ⟨hle, ?_, ?_⟩
  · have := cnt_mono (s : Int) hle
    omega
  · constructor
    · intro hc
      by_cases q : lowOf d s = fillHi d s
      · exact q
      · have := cnt_mono (s : Int) (show lowOf d s + 1 ≤ fillHi d s by omega)
        omega
    · intro hq
      rw [hq] at e e2
      omega

/-! ### the program's texts of digits: least and greatest -/
theorem pad_app (j k a b : Nat) (hb : b < 10 ^ k) : pad (j + k) (a * 10 ^ k + b) = pad j a ++ pad k b := by
  rw [← List.take_append_drop j (pad (j + k) (a * 10 ^ k + b)), pad_take, pad_drop]
  rw [Nat.mul_comm a, Nat.mul_add_div (p10n k), Nat.div_eq_of_lt hb, Nat.mul_add_mod, Nat.mod_eq_of_lt hb, Nat.add_zero]
theorem dec_one (n : Nat) (h0 : 1 ≤ n) (h : n < 10) : Lib.decDigits n = pad 1 n := by
  rw [dec_pad]
  have a := nDigits_le n 1 (by omega) (by omega)
  have b := Lib.lt_pow_nDigits n
  have : Lib.nDigits n = 1 := by
    generalize Lib.nDigits n = x at a b
    rcases x with _ | x
    · simp at b; omega
    · omega
  rw [this]
theorem val_cons (a x : Int) (l : List Int) : val a (x :: l) = val (10 * a + x) l := rfl
theorem val_shift (l : List Int) : ∀ a : Int, val a l = a * 10 ^ l.length + val 0 l := by
  induction l with
  | nil => intro a; simp [val]
  | cons x l ih =>
    intro a
    rw [val_cons, val_cons, ih, ih (10 * 0 + x), List.length_cons, Int.pow_succ]
    grind
def dgT (d N : Nat) : List Int := (pad d N).map fun b => (b.toNat : Int) - 48
theorem dgT_succ (d N : Nat) : dgT (d + 1) N = dgT d (N / 10) ++ [((N % 10 : Nat) : Int)] := by
  unfold dgT
  simp only [pad, List.map_append, List.map_cons, List.map_nil]
  rw [dch_nat (Nat.mod_lt _ (by decide))]
  congr 2
  omega
theorem dgT_len (d N : Nat) : (dgT d N).length = d := by simp [dgT, pad_length]
theorem dgT_in (d : Nat) : ∀ N, ∀ x ∈ dgT d N, 0 ≤ x ∧ x ≤ 9 := by
  induction d with
  | zero => intro N x hx; simp [dgT, pad] at hx
  | succ d ih =>
    intro N x hx
    rw [dgT_succ] at hx
    rcases List.mem_append.mp hx with h | h
    · exact ih _ x h
    · rw [List.mem_singleton.mp h]; omega
theorem hi_val (k : Nat) : ∀ s, s ≤ 9 * k → val 0 (dgT k (lv k s)).reverse = (fillHi k s : Int) := by
  induction k with
  | zero => intro s _; rfl
  | succ k ih =>
    intro s hs
    have e1 : lv (k + 1) s / 10 = lv k (s - 9) := by simp only [lv]; omega
    have e2 : lv (k + 1) s % 10 = min s 9 := by simp only [lv]; omega
    rw [dgT_succ, e1, e2, List.reverse_append, List.reverse_singleton, List.singleton_append, val_cons, val_shift, ih (s - 9) (by omega), List.length_reverse, dgT_len]
    simp only [fillHi]
    rw [show s - min 9 s = s - 9 by omega, Nat.min_comm 9 s, p10]
    push_cast
    grind
theorem bytes_T (d N : Nat) : bytesOf (mkT d N) = (dgT d N).map (48 + ·) := by
  unfold dgT
  rw [List.map_map]
  have : (fun b : UInt8 => (b.toNat : Int)) = ((48 + ·) ∘ fun b : UInt8 => (b.toNat : Int) - 48) := by
    funext b; simp only [Function.comp]; omega
  rw [← this, ← T_list d N]
  rfl
theorem turned_T (d s : Nat) (hd : d ≤ 12) (hs : s ≤ 9 * d) : ∃ t, impl_turned.f (mkT d (lv d s)) = some t ∧ Ev (fun k => impl_numberOf.f k t) ((fillHi d s : Nat) : Int) := by
  refine ⟨_, if_pos (by rw [T_size]; omega), ?_⟩
  rw [bytes_T, ← List.map_reverse]
  have := numberOf_ev (dgT d (lv d s)).reverse (by rw [List.length_reverse, dgT_len]; omega) (fun x hx => dgT_in d _ x (List.mem_reverse.mp hx))
  rw [hi_val d s hs] at this
  exact this
theorem mx_nat (a b : Nat) : mx (a : Int) (b : Int) = ((max a b : Nat) : Int) := by
  unfold mx; first | omega | (split <;> omega)
theorem fst_eq (d s : Nat) (hd : 1 ≤ d) (hd2 : d ≤ 12) (hs : s ≤ 108) : mx 1 (wrap64 ((s : Int) - (wrap64 (9 * (wrap64 ((d : Int) - 1)))))) = ((fstD d s : Nat) : Int) := by
  have e1 : wrap64 ((d : Int) - 1) = ((d - 1 : Nat) : Int) := by rw [wrap_of (by omega) (by omega)]; omega
  rw [e1, wrap_of (x := 9 * ((d - 1 : Nat) : Int)) (by omega) (by omega), wrap_of (by omega) (by omega)]
  unfold mx fstD
  first | omega | (split <;> omega)
theorem iHi_in (d s : Nat) (h : goodD d s) : Ev (fun k => impl_GreatestOfDigits.f k (d : Int) (s : Int)) ((fillHi d s : Int), true) := by
  obtain ⟨h1, h2, h3, h4⟩ := h
  have key : Ev (fun k => impl_ofDigits.j0 k (d : Int) (s : Int) true false) ((fillHi d s : Int), true) := by
    refine ev_succ ?_
    simp only [impl_ofDigits.j0]
    obtain ⟨t, ht, hv⟩ := turned_T d s h2 h3
    exact ev_neg (by simp) (ev_pos trivial (Ev.bind (ileast_ev d s (by omega) (by omega)) (ev_bind ht (Ev.bind hv (ev_eq fun _ => rfl)))))
  unfold impl_GreatestOfDigits.f
  refine Ev.bind (a := ((fillHi d s : Int), true)) ?_ (ev_eq fun _ => rfl)
  unfold impl_ofDigits.f impl_isSum.f
  rw [within_eq, within_eq]
  simp only [Option.bind_some]
  refine ev_pos (decide_eq_true (by omega)) (ev_pos (decide_eq_true (by omega)) (ev_neg (by rw [wrap_of (by omega) (by omega)]; omega) ?_))
  by_cases c : s = 0
  · have := h4 c
    rw [decide_eq_false (by omega)]
    exact ev_pos (by omega) key
  · exact ev_neg (by omega) key
theorem iLo_in (d s : Nat) (h : goodD d s) : Ev (fun k => impl_LeastOfDigits.f k (d : Int) (s : Int)) ((lowOf d s : Int), true) := by
  obtain ⟨h1, h2, h3, h4⟩ := h
  have key : Ev (fun k => impl_ofDigits.j0 k (d : Int) (s : Int) false false) ((lowOf d s : Int), true) := by
    refine ev_succ ?_
    simp only [impl_ofDigits.j0]
    refine ev_neg (by simp) (ev_neg (by simp) ?_)
    by_cases c : d = 1
    · subst c
      refine ev_pos rfl (ev_eq fun _ => ?_)
      unfold lowOf fstD
      split
      · rename_i hh; subst hh; rfl
      · simp only [fillLo, Nat.pow_zero, Nat.mul_one, Nat.add_zero, Nat.sub_self, Nat.mul_zero, Nat.sub_zero]
        rw [show max 1 s = s by omega]
    · refine ev_neg (by omega) ?_
      have hs0 : s ≠ 0 := fun e => c (h4 e)
      obtain ⟨q, rfl⟩ : ∃ q, d = q + 1 := ⟨d - 1, by omega⟩
      rw [fst_eq (q + 1) s (by omega) h2 (by omega)]
      have hF : fstD (q + 1) s ≤ 9 := by unfold fstD; omega
      have hFs : fstD (q + 1) s ≤ s := by unfold fstD; omega
      have hrest : s - fstD (q + 1) s ≤ 9 * q := by unfold fstD; omega
      obtain ⟨F, hF_⟩ : ∃ F, F = fstD (q + 1) s := ⟨_, rfl⟩
      have e1 : wrap64 (((q + 1 : Nat) : Int) - 1) = (q : Int) := by rw [wrap_of (by omega) (by omega)]; omega
      have e2 : wrap64 ((s : Int) - ((F : Nat) : Int)) = ((s - F : Nat) : Int) := by rw [wrap_of (by omega) (by omega)]; omega
      have hlow : lowOf (q + 1) s = F * 10 ^ q + lv q (s - F) := by
        unfold lowOf; rw [if_neg hs0, ← hF_, Nat.add_sub_cancel, lv_fill q _ (by omega)]
      have hF1 : 1 ≤ F := by rw [hF_]; unfold fstD; omega
      rw [← hF_] at hF hFs hrest ⊢
      rw [e1, e2, hlow]
      refine ev_bind (itoa_nat F (by omega)) ?_
      refine Ev.bind (ileast_ev q (s - F) (by omega) (by omega)) ?_
      have et : (⟨(Lib.decDigits F).toArray⟩ : ByteArray) ++ mkT q (lv q (s - F)) = mkT (q + 1) (F * 10 ^ q + lv q (s - F)) := by
        rw [dec_one F hF1 (by omega), mk_append, Nat.add_comm q 1]
        show (⟨(pad 1 F ++ pad q (lv q (s - F))).toArray⟩ : ByteArray) = ⟨(pad (1 + q) (F * 10 ^ q + lv q (s - F))).toArray⟩
        rw [pad_app 1 q F _ (lv_lt q _)]
      have hz : (⟨(Lib.decDigits F).toArray⟩ : ByteArray).size = 1 := by rw [dec_one F hF1 (by omega), mk_size, pad_length]
      refine ev_pos (by rw [hz, T_size]; omega) ?_
      rw [et]
      refine Ev.bind (numberOf_T (q + 1) _ (by omega) ?_) (ev_eq fun _ => rfl)
      rw [← hlow]
      exact (lowOf_spec (q + 1) s ⟨h1, h2, h3, h4⟩).1
  unfold impl_LeastOfDigits.f
  refine Ev.bind (a := ((lowOf d s : Int), true)) ?_ (ev_eq fun _ => rfl)
  unfold impl_ofDigits.f impl_isSum.f
  rw [within_eq, within_eq]
  simp only [Option.bind_some]
  refine ev_pos (decide_eq_true (by omega)) (ev_pos (decide_eq_true (by omega)) (ev_neg (by rw [wrap_of (by omega) (by omega)]; omega) ?_))
  by_cases c : s = 0
  · have := h4 c
    rw [decide_eq_false (by omega)]
    exact ev_pos (by omega) key
  · exact ev_neg (by omega) key

/-! ### numbers of so many digits: both sides, all arguments -/
theorem W_zero (k : Nat) : W k 0 = 1 := by
  induction k with
  | zero => rfl
  | succ k ih =>
    simp only [W]
    rw [ih, W_neg k _ (by omega), W_neg k _ (by omega), W_neg k _ (by omega), W_neg k _ (by omega), W_neg k _ (by omega), W_neg k _ (by omega), W_neg k _ (by omega), W_neg k _ (by omega), W_neg k _ (by omega)]
    rfl
theorem leDigits_eq (a0 a1 : Int) : spec_leDigits.f a0 a1 = some (decide (1 ≤ a0 ∧ a0 ≤ 12 ∧ 0 ≤ a1 ∧ a1 ≤ 9 * a0 ∧ (a1 = 0 → a0 = 1))) := by
  unfold spec_leDigits.f spec_leSum.f
  rw [l1In_eq, l1In_eq]
  simp only [Option.bind_some]
  by_cases c : 1 ≤ a0 ∧ a0 ≤ 12
  · rw [if_pos (decide_eq_true c)]
    by_cases c2 : 0 ≤ a1 ∧ a1 ≤ 108
    · rw [if_pos (decide_eq_true c2), wrap_of (by omega) (by omega)]
      by_cases c3 : a1 ≤ 9 * a0
      · rw [if_pos c3]
        by_cases c4 : a1 > 0
        · rw [if_pos c4, decide_eq_true (by omega)]
        · rw [if_neg c4]
          by_cases c5 : a0 = 1
          · rw [decide_eq_true (by omega)]; simp [c5]
          · rw [decide_eq_false (by omega)]; simp [c5]
      · rw [if_neg c3, decide_eq_false (by omega)]
    · rw [if_neg (by simpa using c2), decide_eq_false (by omega)]
  · rw [if_neg (by simpa using c), decide_eq_false (by omega)]
theorem sLo_loop (d s f : Nat) (hd : d ≤ 12) (hf : f ≤ 9) (res : Int × Bool) : ∀ (e j x : Nat), j + e = d → 1 ≤ j → x < 10 ^ j →
    Ev (fun k => (spec_leFill.f k (wrap64 ((d : Int) - 1)) (wrap64 ((s : Int) - (f : Int))) false).bind fun t270 => (some (wrap64 (((x * 10 ^ e : Nat) : Int) + t270), true))) res →
    Ev (fun k => spec_LeastOfDigits.l0 k (d : Int) (s : Int) (f : Int) (x : Int) (j : Int)) res := by
  intro e
  induction e with
  | zero =>
    intro j x hj h1 hx h
    refine ev_succ ?_
    simp only [spec_LeastOfDigits.l0]
    refine ev_neg (by omega) ?_
    rw [Nat.pow_zero, Nat.mul_one] at h
    exact h
  | succ e ih =>
    intro j x hj h1 hx h
    refine ev_succ ?_
    simp only [spec_LeastOfDigits.l0]
    have hb : 10 ^ j ≤ 10 ^ 12 := Nat.pow_le_pow_right (by omega) (by omega)
    have e1 : wrap64 ((x : Int) * 10) = ((x * 10 : Nat) : Int) := by rw [wrap_of (by omega) (by omega)]; omega
    rw [e1, wrap_nat (i := j) (by omega)]
    refine ev_pos (by omega) (ih (j + 1) (x * 10) (by omega) (by omega) (by rw [Nat.pow_succ]; omega) ?_)
    rw [show x * 10 * 10 ^ e = x * 10 ^ (e + 1) by rw [Nat.pow_succ, Nat.mul_assoc, Nat.mul_comm 10]]
    exact h
theorem sLo_in (d s : Nat) (h : goodD d s) : Ev (fun k => spec_LeastOfDigits.f k (d : Int) (s : Int)) ((lowOf d s : Int), true) := by
  have hlt := (lowOf_spec d s h).1
  obtain ⟨h1, h2, h3, h4⟩ := h
  unfold spec_LeastOfDigits.f
  rw [leDigits_eq]
  simp only [Option.bind_some]
  refine ev_pos (decide_eq_true (by omega)) ?_
  by_cases c : s = 0
  · subst c
    exact ev_pos rfl (ev_eq fun _ => rfl)
  · refine ev_neg (by omega) ?_
    have hm : spec_l1Most.f 1 (wrap64 ((s : Int) - (wrap64 (9 * (wrap64 ((d : Int) - 1)))))) = some ((fstD d s : Nat) : Int) := by
      rw [most_eq, ← fst_eq d s h1 h2 (by omega)]
      congr 1
      unfold mx; omega
    refine ev_bind hm ?_
    have hF : fstD d s ≤ 9 := by unfold fstD; omega
    have hFs : fstD d s ≤ s := by unfold fstD; omega
    have hrest : s - fstD d s ≤ 9 * (d - 1) := by unfold fstD; omega
    have hlow : lowOf d s = fstD d s * 10 ^ (d - 1) + fillLo (d - 1) (s - fstD d s) := if_neg c
    refine sLo_loop d s (fstD d s) h2 hF _ (d - 1) 1 (fstD d s) (by omega) (by omega) (by omega) ?_
    rw [show wrap64 ((d : Int) - 1) = ((d - 1 : Nat) : Int) by rw [wrap_of (by omega) (by omega)]; omega, show wrap64 ((s : Int) - (fstD d s : Int)) = ((s - fstD d s : Nat) : Int) by rw [wrap_of (by omega) (by omega)]; omega]
    refine Ev.bind (leFillLo_ev (d - 1) (s - fstD d s) (by omega) hrest) (ev_eq fun _ => ?_)
    have h12 : 10 ^ d ≤ 10 ^ 12 := Nat.pow_le_pow_right (by omega) h2
    rw [wrap_of (by omega) (by omega), hlow]
    congr 2
theorem sHi_in (d s : Nat) (h : goodD d s) : Ev (fun k => spec_GreatestOfDigits.f k (d : Int) (s : Int)) ((fillHi d s : Int), true) := by
  obtain ⟨h1, h2, h3, h4⟩ := h
  unfold spec_GreatestOfDigits.f
  rw [leDigits_eq]
  simp only [Option.bind_some]
  exact ev_pos (decide_eq_true (by omega)) (Ev.bind (leFillHi_ev d s h2 h3) (ev_eq fun _ => rfl))
theorem iOD_out (a0 a1 : Int) (g : Bool) (h : ¬ (1 ≤ a0 ∧ a0 ≤ 12 ∧ 0 ≤ a1 ∧ a1 ≤ 9 * a0 ∧ (a1 = 0 → a0 = 1))) : Ev (fun k => impl_ofDigits.f k a0 a1 g) (0, false) := by
  have jt : Ev (fun k => impl_ofDigits.j0 k a0 a1 g true) (0, false) := ev_succ (by simp only [impl_ofDigits.j0]; exact ev_pos trivial (ev_eq fun _ => rfl))
  unfold impl_ofDigits.f impl_isSum.f
  rw [within_eq, within_eq]
  simp only [Option.bind_some]
  by_cases c : 1 ≤ a0 ∧ a0 ≤ 12
  · refine ev_pos (decide_eq_true c) ?_
    by_cases c2 : 0 ≤ a1 ∧ a1 ≤ 108
    · refine ev_pos (decide_eq_true c2) ?_
      rw [wrap_of (by omega) (by omega)]
      by_cases c3 : a1 > 9 * a0
      · exact ev_pos c3 jt
      · refine ev_neg c3 (ev_pos (by omega) ?_)
        rw [decide_eq_true (by omega)]
        exact jt
    · exact ev_neg (by simpa using c2) jt
  · exact ev_neg (by simpa using c) jt
def digsR (a0 a1 : Int) (lo hi co : Int × Bool) : Prop :=
  Ev (fun k => impl_LeastOfDigits.f k a0 a1) lo ∧ Ev (fun k => spec_LeastOfDigits.f k a0 a1) lo ∧ Ev (fun k => impl_GreatestOfDigits.f k a0 a1) hi ∧ Ev (fun k => spec_GreatestOfDigits.f k a0 a1) hi ∧ Ev (fun k => impl_CountOfDigits.f k a0 a1) co ∧ Ev (fun k => spec_CountOfDigits.f k a0 a1) co
theorem digs_all (a0 a1 : Int) : (∃ d s : Nat, a0 = d ∧ a1 = s ∧ goodD d s ∧ digsR a0 a1 ((lowOf d s : Int), true) ((fillHi d s : Int), true) (CD d (s : Int), true)) ∨ (∃ c b, ¬ (b = true ∧ c > 0) ∧ digsR a0 a1 (0, false) (0, false) (c, b)) := by
  by_cases g : 1 ≤ a0 ∧ a0 ≤ 12 ∧ 0 ≤ a1 ∧ a1 ≤ 9 * a0 ∧ (a1 = 0 → a0 = 1)
  · obtain ⟨d, rfl⟩ : ∃ d : Nat, a0 = (d : Int) := ⟨a0.toNat, by omega⟩
    obtain ⟨s, rfl⟩ : ∃ s : Nat, a1 = (s : Int) := ⟨a1.toNat, by omega⟩
    have hg : goodD d s := by unfold goodD; omega
    exact .inl ⟨d, s, rfl, rfl, hg, iLo_in d s hg, sLo_in d s hg, iHi_in d s hg, sHi_in d s hg, iCOD_in d s (by omega) (by omega) (by omega), sCOD_in d s (by omega) (by omega) (by omega)⟩
  · refine .inr ?_
    have h1 : Ev (fun k => impl_LeastOfDigits.f k a0 a1) (0, false) := by
      unfold impl_LeastOfDigits.f
      exact Ev.bind (iOD_out a0 a1 false g) (ev_eq fun _ => rfl)
    have h2 : Ev (fun k => impl_GreatestOfDigits.f k a0 a1) (0, false) := by
      unfold impl_GreatestOfDigits.f
      exact Ev.bind (iOD_out a0 a1 true g) (ev_eq fun _ => rfl)
    have h3 : Ev (fun k => spec_LeastOfDigits.f k a0 a1) (0, false) := by
      unfold spec_LeastOfDigits.f
      rw [leDigits_eq]
      exact ev_neg (by simp only [decide_eq_true_eq]; exact g) (ev_eq fun _ => rfl)
    have h4 : Ev (fun k => spec_GreatestOfDigits.f k a0 a1) (0, false) := by
      unfold spec_GreatestOfDigits.f
      rw [leDigits_eq]
      exact ev_neg (by simp only [decide_eq_true_eq]; exact g) (ev_eq fun _ => rfl)
    by_cases c : (1 ≤ a0 ∧ a0 ≤ 12) ∧ (0 ≤ a1 ∧ a1 ≤ 108)
    · obtain ⟨d, rfl⟩ : ∃ d : Nat, a0 = (d : Int) := ⟨a0.toNat, by omega⟩
      obtain ⟨s, rfl⟩ : ∃ s : Nat, a1 = (s : Int) := ⟨a1.toNat, by omega⟩
      have hz : CD d (s : Int) = 0 := by
        unfold CD
        by_cases q : (s : Int) > 9 * d
        · rw [W_big d _ (by omega), W_big (d - 1) _ (by omega)]
          split
          · rename_i hh; subst hh; exact W_big 1 _ (by omega)
          · rfl
        · rw [if_neg (by omega), show (s : Int) = 0 by omega, W_zero, W_zero]; rfl
      exact ⟨CD d (s : Int), true, by rw [hz]; omega, h1, h3, h2, h4, iCOD_in d s (by omega) (by omega) (by omega), sCOD_in d s (by omega) (by omega) (by omega)⟩
    · refine ⟨0, false, by simp, h1, h3, h2, h4, ?_, ?_⟩
      · have jt : Ev (fun k => impl_CountOfDigits.j0 k a0 a1 true) (0, false) := ev_succ (by simp only [impl_CountOfDigits.j0]; exact ev_pos trivial (ev_eq fun _ => rfl))
        unfold impl_CountOfDigits.f impl_isSum.f
        rw [within_eq, within_eq]
        simp only [Option.bind_some]
        by_cases q : 1 ≤ a0 ∧ a0 ≤ 12
        · refine ev_pos (decide_eq_true q) ?_
          rw [decide_eq_false (fun h => c ⟨q, h⟩)]
          exact jt
        · exact ev_neg (by simpa using q) jt
      · have jt : Ev (fun k => spec_CountOfDigits.j0 k a0 a1 true) (0, false) := ev_succ (by simp only [spec_CountOfDigits.j0]; exact ev_pos trivial (ev_eq fun _ => rfl))
        unfold spec_CountOfDigits.f spec_leSum.f
        rw [l1In_eq, l1In_eq]
        simp only [Option.bind_some]
        by_cases q : 1 ≤ a0 ∧ a0 ≤ 12
        · refine ev_pos (decide_eq_true q) ?_
          rw [decide_eq_false (fun h => c ⟨q, h⟩)]
          exact jt
        · exact ev_neg (by simpa using q) jt

/-! ### the digits of a number, sorted -/
def dgs (n : Nat) : List Nat := if h : n < 10 then [n] else dgs (n / 10) ++ [n % 10]
termination_by n
decreasing_by omega
theorem dgs_small {n : Nat} (h : n < 10) : dgs n = [n] := by rw [dgs, dif_pos h]
theorem dgs_big {n : Nat} (h : ¬ n < 10) : dgs n = dgs (n / 10) ++ [n % 10] := by rw [dgs, dif_neg h]
theorem dgs_lt (n : Nat) : ∀ d ∈ dgs n, d < 10 := by
  induction n using Nat.strongRecOn with
  | _ n ih =>
    by_cases h : n < 10
    · rw [dgs_small h]; intro d hd; simp at hd; omega
    · rw [dgs_big h]
      intro d hd
      rcases List.mem_append.mp hd with hd | hd
      · exact ih (n / 10) (by omega) d hd
      · simp at hd; omega
theorem dgs_len (k : Nat) : ∀ n, n < 10 ^ (k + 1) → (dgs n).length ≤ k + 1 := by
  induction k with
  | zero => intro n h; rw [dgs_small (by simpa using h)]; simp
  | succ k ih =>
    intro n h
    by_cases h1 : n < 10
    · rw [dgs_small h1]; simp
    · rw [dgs_big h1, List.length_append]
      have := ih (n / 10) (by rw [Nat.pow_succ] at h; omega)
      simp only [List.length_singleton]; omega
theorem dgs_pos (n : Nat) : 0 < (dgs n).length := by
  by_cases h : n < 10
  · rw [dgs_small h]; simp
  · rw [dgs_big h, List.length_append]; simp
theorem dec_dgs (n : Nat) : Lib.decDigits n = (dgs n).map fun d => UInt8.ofNat (48 + d) := by
  induction n using Nat.strongRecOn with
  | _ n ih =>
    by_cases h : n < 10
    · rw [dgs_small h, Lib.decDigits, dif_pos h]; rfl
    · rw [dgs_big h, Lib.decDigits, dif_neg h, ih (n / 10) (by omega), List.map_append]; rfl
def dI (n : Nat) : List Int := (dgs n).map fun d : Nat => (d : Int)
theorem dI_len (n : Nat) : (dI n).length = (dgs n).length := by simp [dI]
theorem dI_range (n : Nat) : ∀ d ∈ dI n, 0 ≤ d ∧ d ≤ 9 := by
  intro d hd
  obtain ⟨e, he, rfl⟩ := List.mem_map.mp hd
  have := dgs_lt n e he
  omega
theorem ofNat_nat {d : Nat} (h : d < 10) : ((UInt8.ofNat (48 + d)).toNat : Int) = 48 + d := by rw [UInt8.toNat_ofNat']; omega
theorem bytesOf_itoa (n : Nat) : bytesOf ⟨(Lib.itoa (n : Int)).toArray⟩ = (dI n).map (48 + ·) := by
  unfold bytesOf Lib.itoa
  rw [if_neg (by omega), Int.toNat_natCast, dec_dgs]
  simp only [List.map_map, dI]
  apply List.map_congr_left
  intro d hd
  exact ofNat_nat (dgs_lt n d hd)
theorem itoa_size (n : Nat) : (⟨(Lib.itoa (n : Int)).toArray⟩ : ByteArray).size = (dgs n).length := by
  show (Lib.itoa (n : Int)).toArray.size = _
  unfold Lib.itoa
  rw [if_neg (by omega), Int.toNat_natCast, dec_dgs]
  simp
theorem itoa_ev (n : Nat) (h : n ≤ 9223372036854775807) : strconv_Itoa.f (n : Int) = some ⟨(Lib.itoa (n : Int)).toArray⟩ := by
  unfold strconv_Itoa.f
  rw [if_pos (by omega), if_pos (by omega)]
theorem leList_ev (n : Nat) (h : n ≤ 1000000000000) : Ev (fun k => spec_leList.f k (n : Int)) (dI n) := by
  have go : ∀ (m : Nat) (acc : List Int), m ≤ 1000000000000 → acc.length + m ≤ 2000000000000 → Ev (fun k => spec_leList.l0 k (m : Int) acc) ((if m = 0 then [] else dI m) ++ acc) := by
    intro m
    induction m using Nat.strongRecOn with
    | _ m ih =>
      intro acc hm ha
      refine ev_succ ?_
      simp only [spec_leList.l0]
      by_cases h0 : m = 0
      · subst h0
        exact ev_neg (by omega) (ev_eq fun _ => by simp)
      · refine ev_pos (by omega) ?_
        simp only [Option.bind_some, List.length_singleton]
        refine ev_pos (by omega) ?_
        rw [Int.tdiv_eq_ediv_of_nonneg (by omega), Int.tmod_eq_emod_of_nonneg (by omega), wrap_of (by omega) (by omega), show (m : Int) / 10 = ((m / 10 : Nat) : Int) by omega, show (m : Int) % 10 = ((m % 10 : Nat) : Int) by omega]
        have := ih (m / 10) (by omega) ([((m % 10 : Nat) : Int)] ++ acc) (by omega) (by simp only [List.length_append, List.length_singleton]; omega)
        have e : (if m / 10 = 0 then [] else dI (m / 10)) ++ ([((m % 10 : Nat) : Int)] ++ acc) = (if m = 0 then [] else dI m) ++ acc := by
          rw [if_neg h0, ← List.append_assoc]
          congr 1
          unfold dI
          by_cases h1 : m < 10
          · rw [if_pos (by omega), dgs_small h1, show m % 10 = m by omega]; rfl
          · rw [if_neg (by omega), dgs_big h1, List.map_append]; rfl
        rw [e] at this
        exact this
  unfold spec_leList.f
  rw [Int.tdiv_eq_ediv_of_nonneg (by omega), Int.tmod_eq_emod_of_nonneg (by omega), wrap_of (by omega) (by omega), show (n : Int) / 10 = ((n / 10 : Nat) : Int) by omega, show (n : Int) % 10 = ((n % 10 : Nat) : Int) by omega]
  have := go (n / 10) [((n % 10 : Nat) : Int)] (by omega) (by simp only [List.length_singleton]; omega)
  have e : (if n / 10 = 0 then [] else dI (n / 10)) ++ [((n % 10 : Nat) : Int)] = dI n := by
    unfold dI
    by_cases h1 : n < 10
    · rw [if_pos (by omega), dgs_small h1, show n % 10 = n by omega]; rfl
    · rw [if_neg (by omega), dgs_big h1, List.map_append]; rfl
  rw [e] at this
  exact this

/-! ### products of digits (words of other texts of ours) -/
def pr (n : Nat) : Nat := if h : n < 10 then n else n % 10 * pr (n / 10)
termination_by n
decreasing_by omega
theorem pr_small {n : Nat} (h : n < 10) : pr n = n := by rw [pr, dif_pos h]
theorem pr_step {n : Nat} (h : 10 ≤ n) : pr n = n % 10 * pr (n / 10) := by rw [pr, dif_neg (by omega)]
theorem dec_T (n : Nat) : (⟨(Lib.decDigits n).toArray⟩ : ByteArray) = mkT (Lib.nDigits n) n := by rw [dec_pad]
theorem own_eq (j n i : Nat) (h : i < j) : (bt (mkT j n) (i : Int) - 48) % 256 = ((n / 10 ^ (j - 1 - i) % 10 : Nat) : Int) := by
  rw [T_bt j n i h]
  have : n / 10 ^ (j - 1 - i) % 10 < 10 := Nat.mod_lt _ (by omega)
  omega
theorem p9_pos (k : Nat) : 1 ≤ (9 : Int) ^ k := by
  induction k with
  | zero => decide
  | succ k ih => rw [Int.pow_succ]; omega
theorem p9_le (k : Nat) (h : k ≤ 13) : (9 : Int) ^ k ≤ 2541865828329 := by
  have h1 : (9 : Nat) ^ k ≤ 9 ^ 13 := Nat.pow_le_pow_right (by omega) h
  have h2 : (9 : Int) ^ k = ((9 ^ k : Nat) : Int) := by rw [Int.natCast_pow]; rfl
  rw [h2]
  have h3 : (9 : Nat) ^ 13 = 2541865828329 := by decide
  omega
theorem nDig_le (n : Nat) : ∀ k, 0 < k → n < 10 ^ k → Lib.nDigits n ≤ k := nDigits_le n

/-! ### roots, products, ends -/
def pt (n : Nat) : Nat → Nat
  | 0 => 1
  | d + 1 => n / 10 ^ d % 10 * pt n d
theorem pt_cons (n : Nat) : ∀ d, pt n (d + 1) = n % 10 * pt (n / 10) d := by
  intro d
  induction d with
  | zero => simp [pt]
  | succ d ih =>
    rw [pt, ih, pt, Nat.div_div_eq_div_mul, Nat.pow_succ, Nat.mul_comm (10 ^ d) 10]
    rw [Nat.mul_left_comm]
theorem pt_pr (n : Nat) : pt n (Lib.nDigits n) = pr n := by
  induction n using Nat.strongRecOn with
  | _ n ih =>
    by_cases h : n < 10
    · rw [Lib.nDigits_small h, pr_small h, pt_cons]; simp [pt]; omega
    · rw [Lib.nDigits_big h, pr_step (by omega), pt_cons, ih _ (by omega)]
theorem iprod_loop (n j : Nat) (hn : n < 10 ^ j) (hj : j ≤ 13) : ∀ (e i : Nat) (o : Int), i + e = j → 0 ≤ o → o ≤ 9 ^ i →
    Ev (fun k => impl_digitProduct.l0 k (bytesOf (mkT j n)) o (i : Int)) (o * (pt n e : Int)) := by
  have hl : (bytesOf (mkT j n)).length = j := by rw [bytesOf_length, T_size]
  intro e
  induction e with
  | zero =>
    intro i o hi h0 h9
    refine ev_succ ?_
    simp only [impl_digitProduct.l0]
    rw [hl]
    exact ev_neg (by omega) (ev_eq fun _ => by simp [pt])
  | succ e ih =>
    intro i o hi h0 h9
    have how := own_eq j n i (by omega)
    have ht : n / 10 ^ (j - 1 - i) % 10 < 10 := Nat.mod_lt _ (by omega)
    have he : n / 10 ^ (j - 1 - i) % 10 = n / 10 ^ e % 10 := by rw [show j - 1 - i = e by omega]
    refine ev_succ ?_
    simp only [impl_digitProduct.l0]
    rw [hl, rd_bytesOf, how, he, wrap_nat (by omega)]
    rw [he] at ht
    have h1 := p9_le (i + 1) (by omega)
    rw [Int.pow_succ] at h1
    have h2 : o * ((n / 10 ^ e % 10 : Nat) : Int) ≤ 9 ^ i * 9 := Int.mul_le_mul h9 (by omega) (by omega) (by have := p9_pos i; omega)
    have h3 : 0 ≤ o * ((n / 10 ^ e % 10 : Nat) : Int) := Int.mul_nonneg h0 (by omega)
    rw [wrap_of (by omega) (by omega)]
    refine ev_pos (by omega) (ev_pos (by omega) ?_)
    have h4 := ih (i + 1) _ (by omega) h3 (by rw [Int.pow_succ]; exact h2)
    rw [Int.mul_assoc] at h4
    rw [pt, Int.natCast_mul]
    exact h4
theorem idigitProduct_ev (n : Nat) (hn : n < 10 ^ 13) : Ev (fun k => impl_digitProduct.f k (n : Int)) (pr n : Int) := by
  unfold impl_digitProduct.f
  refine ev_bind (itoa_nat n (by omega)) ?_
  rw [dec_T]
  have hj := nDig_le n 13 (by omega) hn
  refine ev_pos (by rw [T_size]; omega) ?_
  have h := iprod_loop n _ (Lib.lt_pow_nDigits n) hj (Lib.nDigits n) 0 1 (by omega) (by omega) (by simp)
  rw [pt_pr, Int.one_mul] at h
  exact h

/-! ### the program's least number with a product -/
theorem lwp_loop (q X : Nat) (hq : 2 ≤ q ∧ q ≤ 9) (hX : X % q ≠ 0) (res : Int × Bool) : ∀ (n : Nat) (R : List Nat), X * q ^ n ≤ 1000000000000 → R.length + n ≤ 100 →
    Ev (fun k => impl_LeastWithProduct.l0 k (X : Int) (dsOf (List.replicate n q ++ R)) ((q : Int) - 1)) res → Ev (fun k => impl_LeastWithProduct.l1 k ((X * q ^ n : Nat) : Int) (dsOf R) (q : Int)) res := by
  intro n
  induction n with
  | zero =>
    intro R hb hl h
    refine ev_succ ?_
    simp only [impl_LeastWithProduct.l1]
    refine ev_neg (by omega) (ev_neg ?_ ?_)
    · rw [w_modd, Nat.pow_zero, Nat.mul_one]; omega
    · rw [wrap_of (by omega) (by omega), Nat.pow_zero, Nat.mul_one]; exact h
  | succ n ih =>
    intro R hb hl h
    have hle : X * q ^ n ≤ X * q ^ (n + 1) := Nat.mul_le_mul_left _ (Nat.pow_le_pow_right (by omega) (by omega))
    have hmul : X * q ^ (n + 1) = X * q ^ n * q := by rw [Nat.pow_succ, Nat.mul_assoc]
    refine ev_succ ?_
    simp only [impl_LeastWithProduct.l1]
    refine ev_neg (by omega) (ev_pos ?_ (ev_pos ?_ ?_))
    · rw [w_modd, hmul, Nat.mul_mod_left]; rfl
    · rw [dsOf_len]; omega
    · rw [w_divd _ q (X * q ^ n) (by rw [hmul]; exact (Nat.mul_div_cancel _ (by omega)).symm) (by omega), wrap_of (x := 48 + (q : Int)) (by omega) (by omega), show (48 + (q : Int)) % 256 = 48 + (q : Int) by omega, ← dsOf_cons]
      refine ih (q :: R) (by omega) (by simp; omega) ?_
      have e : List.replicate n q ++ q :: R = List.replicate (n + 1) q ++ R := by rw [snocR]; simp
      rw [e]; exact h
theorem lwp_digit (q X n : Nat) (R : List Nat) (res : Int × Bool) (hq : 2 ≤ q ∧ q ≤ 9) (hX : X % q ≠ 0) (hb : X * q ^ n ≤ 1000000000000) (hl : R.length + n ≤ 100)
    (h : Ev (fun k => impl_LeastWithProduct.l0 k (X : Int) (dsOf (List.replicate n q ++ R)) ((q : Int) - 1)) res) : Ev (fun k => impl_LeastWithProduct.l0 k ((X * q ^ n : Nat) : Int) (dsOf R) (q : Int)) res := by
  refine ev_succ ?_
  simp only [impl_LeastWithProduct.l0]
  exact ev_pos (by omega) (lwp_loop q X hq hX res n R hb hl h)
theorem rep_mem {n a x : Nat} (h : x ∈ List.replicate n a) : x = a := (List.mem_replicate.mp h).2
theorem pw_rep (n a : Nat) : (List.replicate n a).Pairwise (· ≤ ·) := by
  rw [List.pairwise_replicate]; right; exact Nat.le_refl _
theorem pw_app {A B : List Nat} (m : Nat) (hA : A.Pairwise (· ≤ ·)) (hB : B.Pairwise (· ≤ ·)) (h1 : ∀ x ∈ A, x ≤ m) (h2 : ∀ x ∈ B, m ≤ x) : (A ++ B).Pairwise (· ≤ ·) :=
  List.pairwise_append.mpr ⟨hA, hB, fun a ha b hb => Nat.le_trans (h1 a ha) (h2 b hb)⟩
theorem lowD_in (r t : Nat) : ∀ x ∈ lowD r t, 2 ≤ x ∧ x ≤ 4 := by
  intro x h
  unfold lowD at h
  split at h <;> split at h <;> (try split at h) <;> simp only [List.mem_singleton, List.not_mem_nil] at h <;> omega
theorem lowD_pw (r t : Nat) : (lowD r t).Pairwise (· ≤ ·) := by
  unfold lowD
  split <;> split <;> (try split) <;> simp
theorem midD_in (r t : Nat) : ∀ x ∈ midD r t, x = 6 := by
  intro x h
  unfold midD at h
  split at h <;> simp only [List.mem_singleton, List.not_mem_nil] at h
  exact h
theorem midD_pw (r t : Nat) : (midD r t).Pairwise (· ≤ ·) := by
  unfold midD
  split <;> simp
theorem gD_asc (r t i j c d : Nat) : asc 2 (gD r t i j c d) := by
  refine asc_of _ 2 ?_ ?_
  · unfold gD
    refine pw_app 4 (lowD_pw r t) (pw_app 5 (pw_rep _ _) (pw_app 6 (midD_pw r t) (pw_app 7 (pw_rep _ _) (pw_app 8 (pw_rep _ _) (pw_rep _ _) ?_ ?_) ?_ ?_) ?_ ?_) ?_ ?_) (fun x hx => (lowD_in r t x hx).2) ?_
    all_goals intro x hx
    all_goals (try simp only [List.mem_append] at hx)
    all_goals repeat' first | (have h_ := rep_mem hx; omega) | (have h_ := midD_in _ _ _ hx; omega) | (rcases hx with hx | hx)
  · intro x hx
    unfold gD at hx
    simp only [List.mem_append] at hx
    rcases hx with hx | hx | hx | hx | hx | hx
    · have := lowD_in _ _ _ hx; omega
    · have := rep_mem hx; omega
    · have := midD_in _ _ _ hx; omega
    · have := rep_mem hx; omega
    · have := rep_mem hx; omega
    · have := rep_mem hx; omega
theorem gD_len (r t i j c d : Nat) : (gD r t i j c d).length ≤ 2 + c + d + i + j := by
  simp only [gD, List.length_append, List.length_replicate]
  have h1 : (lowD r t).length ≤ 1 := by unfold lowD; split <;> split <;> (try split) <;> simp
  have h2 : (midD r t).length ≤ 1 := by unfold midD; split <;> simp
  omega
theorem lwp_end (l : List Nat) (h : asc 2 l) (hl : l.length ≤ 12) : Ev (fun k => impl_LeastWithProduct.l0 k (1 : Int) (dsOf l) (1 : Int)) ((numL 0 l : Int), true) := by
  refine ev_succ ?_
  simp only [impl_LeastWithProduct.l0]
  refine ev_neg (by omega) (ev_neg (by omega) ?_)
  have e := asL_ev l 0 h
  rw [List.replicate_zero, List.append_nil, List.replicate_zero, List.nil_append, if_neg (by omega)] at e
  exact ev_pos (by rw [dsOf_len]; omega) (Ev.bind e (ev_eq fun _ => rfl))

/-- The program's least number with a product, where digits make it. -/
theorem iLWP_ev (r t i j c d : Nat) (hr : r < 3) (ht : t < 2) (hp : prD r t i j c d ≤ 1000000000000) (hl : (gD r t i j c d).length ≤ 12) :
    ∃ m : Nat, Ev (fun k => impl_LeastWithProduct.f k ((prD r t i j c d : Nat) : Int)) ((m : Int), true) ∧ (m = 1 ∧ prD r t i j c d = 1 ∨ m = numL 0 (gD r t i j c d)) := by
  have hpos : 1 ≤ prD r t i j c d := by
    unfold prD
    have h1 : ∀ b n : Nat, 1 ≤ b → 1 ≤ b ^ n := fun b n h => Nat.one_le_pow _ _ h
    have h2 : ∀ a b : Nat, 1 ≤ a → 1 ≤ b → 1 ≤ a * b := fun a b h h' => Nat.mul_pos h h'
    exact h2 _ _ (h2 _ _ (h2 _ _ (h2 _ _ (h2 _ _ (h1 _ _ (by omega)) (h1 _ _ (by omega))) (h1 _ _ (by omega))) (h1 _ _ (by omega))) (h1 _ _ (by omega))) (h1 _ _ (by omega))
  have hlen : c + d + i + j ≤ 12 := by
    have : (gD r t i j c d).length = (lowD r t).length + (c + ((midD r t).length + (d + (i + j)))) := by simp [gD]
    omega
  unfold impl_LeastWithProduct.f impl_isProduct.f
  rw [within_eq]
  simp only [Option.bind_some]
  by_cases h1 : prD r t i j c d = 1
  · refine ⟨1, ev_pos (by simp; omega) (ev_pos (by omega) (ev_eq fun _ => rfl)), .inl ⟨rfl, h1⟩⟩
  · refine ⟨numL 0 (gD r t i j c d), ev_pos (by simp; omega) (ev_neg (by omega) ?_), .inr rfl⟩
    have e9 : prD r t i j c d = prD r t i 0 c d * 9 ^ j := by unfold prD; grind
    have e8 : prD r t i 0 c d = prD r t 0 0 c d * 8 ^ i := by unfold prD; grind
    have e7 : prD r t 0 0 c d = prD r t 0 0 c 0 * 7 ^ d := by unfold prD; grind
    have b8 : prD r t i 0 c d ≤ prD r t i j c d := by rw [e9]; exact Nat.le_mul_of_pos_right _ (Nat.pow_pos (by omega))
    have b7 : prD r t 0 0 c d ≤ prD r t i 0 c d := by rw [e8]; exact Nat.le_mul_of_pos_right _ (Nat.pow_pos (by omega))
    have b6 : prD r t 0 0 c 0 ≤ prD r t 0 0 c d := by rw [e7]; exact Nat.le_mul_of_pos_right _ (Nat.pow_pos (by omega))
    have s0 : ([] : List Int) = dsOf [] := rfl
    rw [s0, e9]
    refine lwp_digit 9 (prD r t i 0 c d) j [] _ (by omega) (no9 r t i c d hr ht) (by omega) (by simp; omega) ?_
    rw [e8]
    refine lwp_digit 8 (prD r t 0 0 c d) i _ _ (by omega) (no8 r t c d hr ht) (by omega) (by simp; omega) ?_
    rw [e7]
    refine lwp_digit 7 (prD r t 0 0 c 0) d _ _ (by omega) (no7 r t c) (by omega) (by simp; omega) ?_
    have hcase : (r = 0 ∨ r = 1 ∨ r = 2) ∧ (t = 0 ∨ t = 1) := by omega
    obtain ⟨hr1, ht1⟩ := hcase
    have fin : ∀ (n6 n4 n3 n2 : Nat), n6 ≤ 1 → n4 ≤ 1 → n3 ≤ 1 → n2 ≤ 1 → 2 ^ r * 3 ^ t = 2 ^ n2 * 3 ^ n3 * 4 ^ n4 * 6 ^ n6 → (n6 = 1 ∨ r = 0 ∨ t = 0) → n2 + n3 + n4 ≤ 1 →
        gD r t i j c d = List.replicate n2 2 ++ (List.replicate n3 3 ++ (List.replicate n4 4 ++ (List.replicate c 5 ++ (List.replicate n6 6 ++ (List.replicate d 7 ++ (List.replicate i 8 ++ (List.replicate j 9 ++ []))))))) →
        Ev (fun k => impl_LeastWithProduct.l0 k ((prD r t 0 0 c 0 : Nat) : Int) (dsOf (List.replicate d 7 ++ (List.replicate i 8 ++ (List.replicate j 9 ++ [])))) ((7 : Nat) - 1 : Int)) ((numL 0 (gD r t i j c d) : Int), true) := by
      intro n6 n4 n3 n2 l6 l4 l3 l2 hm h6 hs hg
      have f6 : prD r t 0 0 c 0 = (2 ^ n2 * 3 ^ n3 * 4 ^ n4 * 5 ^ c) * 6 ^ n6 := by unfold prD; grind
      have hX : 2 ^ n2 * 3 ^ n3 * 4 ^ n4 = 1 ∨ 2 ^ n2 * 3 ^ n3 * 4 ^ n4 = 2 ∨ 2 ^ n2 * 3 ^ n3 * 4 ^ n4 = 3 ∨ 2 ^ n2 * 3 ^ n3 * 4 ^ n4 = 4 := by
        have q4 : n4 = 0 ∨ n4 = 1 := by omega
        have q3 : n3 = 0 ∨ n3 = 1 := by omega
        have q2 : n2 = 0 ∨ n2 = 1 := by omega
        rcases q4 with rfl | rfl <;> rcases q3 with rfl | rfl <;> rcases q2 with rfl | rfl <;> first | omega | simp
      have z6 : (2 ^ n2 * 3 ^ n3 * 4 ^ n4 * 5 ^ c) % 6 ≠ 0 := by
        have k2 := nz_pow 2 5 (by omega) (2 ^ n2 * 3 ^ n3 * 4 ^ n4) c
        have k3 := nz_pow 3 5 (by omega) (2 ^ n2 * 3 ^ n3 * 4 ^ n4) c
        rcases hX with h | h | h | h <;> rw [h] at k2 k3 ⊢ <;> first | (have := k2 (by decide); omega) | (have := k3 (by decide); omega)
      have z5 : (2 ^ n2 * 3 ^ n3 * 4 ^ n4) % 5 ≠ 0 := by rcases hX with h | h | h | h <;> rw [h] <;> decide
      have c5 : 2 ^ n2 * 3 ^ n3 * 4 ^ n4 * 5 ^ c ≤ prD r t 0 0 c 0 := by rw [f6]; exact Nat.le_mul_of_pos_right _ (Nat.pow_pos (by omega))
      rw [f6]
      refine lwp_digit 6 _ n6 _ _ (by omega) z6 (by omega) (by simp; omega) ?_
      refine lwp_digit 5 _ c _ _ (by omega) z5 (by omega) (by simp; omega) ?_
      refine lwp_digit 4 (2 ^ n2 * 3 ^ n3) n4 _ _ (by omega) ?_ (by omega) (by simp; omega) ?_
      · have q3 : n3 = 0 ∨ n3 = 1 := by omega
        have q2 : n2 = 0 ∨ n2 = 1 := by omega
        rcases q3 with rfl | rfl <;> rcases q2 with rfl | rfl <;> decide
      refine lwp_digit 3 (2 ^ n2) n3 _ _ (by omega) ?_ ?_ (by simp; omega) ?_
      · have q2 : n2 = 0 ∨ n2 = 1 := by omega
        rcases q2 with rfl | rfl <;> decide
      · have q3 : n3 = 0 ∨ n3 = 1 := by omega
        have q2 : n2 = 0 ∨ n2 = 1 := by omega
        rcases q3 with rfl | rfl <;> rcases q2 with rfl | rfl <;> decide
      have t2 : 2 ^ n2 = 1 * 2 ^ n2 := by rw [Nat.one_mul]
      rw [t2]
      refine lwp_digit 2 1 n2 _ _ (by omega) (by decide) ?_ (by simp; omega) ?_
      · have q2 : n2 = 0 ∨ n2 = 1 := by omega
        rcases q2 with rfl | rfl <;> decide
      rw [← hg]
      exact lwp_end _ (gD_asc _ _ _ _ _ _) hl
    rcases hr1 with rfl | rfl | rfl <;> rcases ht1 with rfl | rfl
    · exact fin 0 0 0 0 (by omega) (by omega) (by omega) (by omega) (by decide) (by omega) (by omega) (by simp [gD, lowD, midD])
    · exact fin 0 0 1 0 (by omega) (by omega) (by omega) (by omega) (by decide) (by omega) (by omega) (by simp [gD, lowD, midD])
    · exact fin 0 0 0 1 (by omega) (by omega) (by omega) (by omega) (by decide) (by omega) (by omega) (by simp [gD, lowD, midD])
    · exact fin 1 0 0 0 (by omega) (by omega) (by omega) (by omega) (by decide) (by omega) (by omega) (by simp [gD, lowD, midD])
    · exact fin 0 1 0 0 (by omega) (by omega) (by omega) (by omega) (by decide) (by omega) (by omega) (by simp [gD, lowD, midD])
    · exact fin 1 0 0 1 (by omega) (by omega) (by omega) (by omega) (by decide) (by omega) (by omega) (by simp [gD, lowD, midD])
/-- The least number with the product of a number's digits is no greater than it. -/
theorem lwp_law (l : List Nat) (h : asc 1 l) (h1 : 1 ≤ l.length) (h2 : l.length ≤ 12) (hp : lpN l ≤ 1000000000000) : ∃ m : Nat, Ev (fun k => impl_LeastWithProduct.f k ((lpN l : Nat) : Int)) ((m : Int), true) ∧ m ≤ numL 0 l := by
  have hok : okD l := fun x hx => (asc_all l 1 h).2 x hx
  obtain ⟨r, t, i, j, c, d, hr, ht, hP, hv⟩ := gD_least l.length l rfl hok
  have hup := numL_up l hok
  have h12 : 10 ^ l.length ≤ 10 ^ 12 := Nat.pow_le_pow_right (by omega) h2
  have hlen : (gD r t i j c d).length ≤ 12 := by
    have hg := gD_ok r t i j c d
    cases hG : gD r t i j c d with
    | nil => simp
    | cons x X =>
      rw [hG] at hg hv
      have a1 := numL_lo x 1 X (hg x List.mem_cons_self).1
      rw [Nat.one_mul] at a1
      by_cases q : X.length < 12
      · simp only [List.length_cons]; omega
      · have : 10 ^ 12 ≤ 10 ^ X.length := Nat.pow_le_pow_right (by omega) (by omega)
        omega
  obtain ⟨m, hm, hc⟩ := iLWP_ev r t i j c d hr ht (by rw [hP]; exact hp) hlen
  rw [hP] at hm
  refine ⟨m, hm, ?_⟩
  rcases hc with ⟨rfl, _⟩ | rfl
  · cases l with
    | nil => simp at h1
    | cons x X =>
      have a1 := numL_lo x 1 X (hok x List.mem_cons_self).1
      have : 0 < 10 ^ X.length := Nat.pow_pos (by omega)
      omega
  · exact hv

/-! ### the next multiple of its own digit sum -/
def HV (n : Nat) : Prop := Int.tmod (n : Int) (ds n) = 0
theorem HV_top : HV 1000000000000 := by
  have : ds 1000000000000 = 1 := by
    have h := ds_join 12 1 0 (by omega)
    rw [ds_small (n := 1) (by omega), ds_small (n := 0) (by omega)] at h
    exact h
  unfold HV
  rw [this]
  rfl
def HW (n w : Nat) : Prop := n ≤ w ∧ w ≤ 1000000000000 ∧ HV w ∧ ∀ y, n ≤ y → y < w → ¬ HV y
theorem HW_next : ∀ e n : Nat, n + e = 1000000000000 → ∃ w, HW n w := by
  intro e
  induction e with
  | zero =>
    intro n hn
    obtain rfl : n = 1000000000000 := by omega
    exact ⟨_, Nat.le_refl _, Nat.le_refl _, HV_top, fun y h1 h2 => by omega⟩
  | succ e ih =>
    intro n hn
    by_cases c : HV n
    · exact ⟨n, Nat.le_refl _, by omega, c, fun y h1 h2 => by omega⟩
    · obtain ⟨w, h1, h2, h3, h4⟩ := ih (n + 1) (by omega)
      refine ⟨w, by omega, h2, h3, fun y hy1 hy2 => ?_⟩
      by_cases q : y = n
      · subst q; exact c
      · exact h4 y (by omega) hy2
theorem ds_ne {n : Nat} (h : 1 ≤ n) : ds n ≠ 0 := by have := ds_pos (n := n) h; omega
theorem iSD_loop (w : Nat) (hw : w ≤ 1000000000000) (hv : HV w) : ∀ e n : Nat, n + e = w → 1 ≤ n → (∀ y, n ≤ y → y < w → ¬ HV y) → Ev (fun k => impl_SumDivides.l0 k (n : Int)) ((w : Int), true) := by
  intro e
  induction e with
  | zero =>
    intro n hn h1 _
    obtain rfl : n = w := by omega
    refine ev_succ ?_
    simp only [impl_SumDivides.l0]
    exact Ev.bind (idigitSum_ev n (by omega)) (ev_neg (ds_ne h1) (ev_pos hv (ev_eq fun _ => rfl)))
  | succ e ih =>
    intro n hn h1 hno
    refine ev_succ ?_
    simp only [impl_SumDivides.l0]
    refine Ev.bind (idigitSum_ev n (by omega)) (ev_neg (ds_ne h1) (ev_neg (hno n (Nat.le_refl _) (by omega)) ?_))
    rw [wrap_nat (by omega)]
    exact ih (n + 1) (by omega) (by omega) (fun y hy hy2 => hno y (by omega) hy2)
def sI : List Int → Int
  | [] => 0
  | x :: l => x + sI l
theorem sI_append (a b : List Int) : sI (a ++ b) = sI a + sI b := by
  induction a with
  | nil => simp [sI]
  | cons x a ih => simp only [List.cons_append, sI, ih]; omega
theorem sI_dI (n : Nat) : sI (dI n) = ds n := by
  induction n using Nat.strongRecOn with
  | _ n ih =>
    by_cases h : n < 10
    · rw [ds_small h]; unfold dI; rw [dgs_small h]; simp [sI]
    · rw [ds_step, ← ih (n / 10) (by omega)]
      unfold dI
      rw [dgs_big h, List.map_append, sI_append]
      simp only [List.map_cons, List.map_nil, sI]
      omega
theorem sI_range (l : List Int) (h : ∀ d ∈ l, 0 ≤ d ∧ d ≤ 9) : 0 ≤ sI l ∧ sI l ≤ 9 * l.length := by
  induction l with
  | nil => simp [sI]
  | cons x l ih =>
    have h1 := h x List.mem_cons_self
    have h2 := ih (fun d hd => h d (List.mem_cons_of_mem _ hd))
    simp only [sI, List.length_cons]
    omega
theorem sSD_sum (n : Nat) (L : List Int) (hL : ∀ d ∈ L, 0 ≤ d ∧ d ≤ 9) (hlen : L.length ≤ 100) (res : Int × Bool) (h : Ev (fun k => if sI L = 0 then none else if Int.tmod (n : Int) (sI L) = 0 then some ((n : Int), true) else spec_SumDivides.l0 k (wrap64 ((n : Int) + 1))) res) :
    ∀ e i : Nat, i + e = L.length → Ev (fun k => spec_SumDivides.l1 k (n : Int) (sI (L.take i)) L (L.length : Int) (i : Int)) res := by
  intro e
  induction e with
  | zero =>
    intro i hi
    refine ev_succ ?_
    simp only [spec_SumDivides.l1]
    refine ev_neg (by omega) ?_
    rw [List.take_of_length_le (by omega)]
    exact h
  | succ e ih =>
    intro i hi
    refine ev_succ ?_
    simp only [spec_SumDivides.l1]
    have hlt : i < L.length := by omega
    have hr : rd L (i : Int) = L[i] := by unfold rd; rw [Int.toNat_natCast, List.getD_eq_getElem?_getD, List.getElem?_eq_getElem hlt]; rfl
    have hd := hL L[i] (List.getElem_mem _)
    have ht := sI_range (L.take i) (fun d hd => hL d (List.mem_of_mem_take hd))
    have htl : (L.take i).length ≤ 100 := by rw [List.length_take]; omega
    have hs : sI (L.take (i + 1)) = sI (L.take i) + L[i] := by
      rw [List.take_succ_eq_append_getElem hlt, sI_append]; simp [sI]
    rw [hr, wrap_of (by omega) (by omega), ← hs, wrap_nat (by omega)]
    exact ev_pos (by omega) (ev_pos (by omega) (ev_pos (by omega) (ih (i + 1) (by omega))))
theorem sSD_loop (w : Nat) (hw : w ≤ 1000000000000) (hv : HV w) : ∀ e n : Nat, n + e = w → 1 ≤ n → (∀ y, n ≤ y → y < w → ¬ HV y) → Ev (fun k => spec_SumDivides.l0 k (n : Int)) ((w : Int), true) := by
  have hlen : ∀ n : Nat, n ≤ 1000000000000 → (dI n).length ≤ 100 := fun n hn => by
    rw [dI_len]; have := dgs_len 12 n (by omega); omega
  intro e
  induction e with
  | zero =>
    intro n hn h1 _
    obtain rfl : n = w := by omega
    refine ev_succ ?_
    simp only [spec_SumDivides.l0]
    refine Ev.bind (leList_ev n (by omega)) ?_
    have := sSD_sum n (dI n) (dI_range n) (hlen n (by omega)) ((n : Int), true) ?_ (dI n).length 0 (by omega)
    · rw [List.take_zero] at this; exact this
    · rw [sI_dI]
      exact ev_neg (ds_ne h1) (ev_pos hv (ev_eq fun _ => rfl))
  | succ e ih =>
    intro n hn h1 hno
    refine ev_succ ?_
    simp only [spec_SumDivides.l0]
    refine Ev.bind (leList_ev n (by omega)) ?_
    have := sSD_sum n (dI n) (dI_range n) (hlen n (by omega)) ((w : Int), true) ?_ (dI n).length 0 (by omega)
    · rw [List.take_zero] at this; exact this
    · rw [sI_dI]
      refine ev_neg (ds_ne h1) (ev_neg (hno n (Nat.le_refl _) (by omega)) ?_)
      rw [wrap_nat (by omega)]
      exact ih (n + 1) (by omega) (by omega) (fun y hy hy2 => hno y (by omega) hy2)
theorem SD_all (a : Int) : (∃ n w : Nat, a = n ∧ 1 ≤ w ∧ HW (max n 1) w ∧ Ev (fun k => impl_SumDivides.f k a) ((w : Int), true) ∧ Ev (fun k => spec_SumDivides.f k a) ((w : Int), true)) ∨
    (Ev (fun k => impl_SumDivides.f k a) (0, false) ∧ Ev (fun k => spec_SumDivides.f k a) (0, false)) := by
  by_cases c : 0 ≤ a ∧ a ≤ 1000000000000
  · obtain ⟨n, rfl⟩ : ∃ n : Nat, a = (n : Int) := ⟨a.toNat, by omega⟩
    obtain ⟨w, hw⟩ := HW_next (1000000000000 - max n 1) (max n 1) (by omega)
    obtain ⟨h1, h2, h3, h4⟩ := hw
    refine .inl ⟨n, w, rfl, by omega, ⟨h1, h2, h3, h4⟩, ?_, ?_⟩
    · unfold impl_SumDivides.f impl_isLeast.f
      rw [within_eq]
      simp only [Option.bind_some]
      refine ev_pos (decide_eq_true c) ?_
      have e : mx (n : Int) 1 = ((max n 1 : Nat) : Int) := by unfold mx; first | omega | (split <;> omega)
      rw [e]
      exact iSD_loop w h2 h3 (w - max n 1) (max n 1) (by omega) (by omega) h4
    · unfold spec_SumDivides.f spec_leNumber.f
      rw [l1In_eq, most_eq]
      simp only [Option.bind_some]
      refine ev_pos (decide_eq_true c) ?_
      have e : max (1 : Int) (n : Int) = ((max n 1 : Nat) : Int) := by omega
      rw [e]
      exact sSD_loop w h2 h3 (w - max n 1) (max n 1) (by omega) (by omega) h4
  · refine .inr ⟨ev_eq fun k => ?_, ev_eq fun k => ?_⟩
    · unfold impl_SumDivides.f impl_isLeast.f
      rw [within_eq]
      simp only [Option.bind_some]
      rw [if_neg (by simpa using c)]
    · unfold spec_SumDivides.f spec_leNumber.f
      rw [l1In_eq]
      simp only [Option.bind_some]
      rw [if_neg (by simpa using c)]

/-! ### digits of a number made of digits -/
theorem ds_numL : ∀ (n : Nat) (l : List Nat), l.length = n → okD l → ds (numL 0 l) = (lsN l : Int) := by
  intro n
  induction n with
  | zero =>
    intro l hl _
    obtain rfl : l = [] := List.eq_nil_of_length_eq_zero hl
    simp [numL, lsN, ds_small]
  | succ n ih =>
    intro l hl h
    rcases List.eq_nil_or_concat l with rfl | ⟨m, e, rfl⟩
    · simp at hl
    · rw [List.concat_eq_append] at hl h ⊢
      have he := h e (List.mem_append_right _ List.mem_cons_self)
      rw [numL_snoc, ds_cons _ _ (by omega), ih m (by simpa using hl) (fun x hx => h x (List.mem_append_left _ hx)), lsN_append]
      simp [lsN]
theorem pr_numL : ∀ (n : Nat) (l : List Nat), l.length = n + 1 → okD l → pr (numL 0 l) = lpN l := by
  intro n
  induction n with
  | zero =>
    intro l hl h
    obtain ⟨x, rfl⟩ := List.length_eq_one_iff.mp hl
    have := h x List.mem_cons_self
    simp only [numL, lpN]
    rw [pr_small (by omega)]
    omega
  | succ n ih =>
    intro l hl h
    rcases List.eq_nil_or_concat l with rfl | ⟨m, e, rfl⟩
    · simp at hl
    · rw [List.concat_eq_append] at hl h ⊢
      have he := h e (List.mem_append_right _ List.mem_cons_self)
      have hm : m.length = n + 1 := by simpa using hl
      have hokm : okD m := fun x hx => h x (List.mem_append_left _ hx)
      have hpos : 1 ≤ numL 0 m := by
        cases m with
        | nil => simp at hm
        | cons y Y =>
          have a1 := numL_lo y 1 Y (hokm y List.mem_cons_self).1
          have : 0 < 10 ^ Y.length := Nat.pow_pos (by omega)
          omega
      rw [numL_snoc, pr_step (by omega), show (10 * numL 0 m + e) % 10 = e by omega, show (10 * numL 0 m + e) / 10 = numL 0 m by omega, ih m hm hokm, lpN_append]
      simp only [lpN, Nat.mul_one]
      exact Nat.mul_comm _ _

def fin (o : Int × Bool) : Int × Bool := if o.2 = true then (if o.1 > 1000000000000 then (0, false) else (o.1, true)) else (0, false)
theorem implNext (n : Nat) (hn : n ≤ 10 ^ 12) (o : Int × Bool) (ho : NextOut n o) : Ev (fun k => impl_NextWithSum.f k (n : Int)) (fin o) := by
  unfold impl_NextWithSum.f impl_isLeast.f
  rw [within_eq]
  simp only [Option.bind_some]
  refine ev_pos (by simp; omega) (Ev.bind (idigitSum_ev n (by omega)) (Ev.bind (idigitSum_ev n (by omega)) ?_))
  have h0 := ds_nonneg n
  have h1 := ds_le 13 n (by omega)
  have ew : wrap64 ((n : Int) + 1) = ((n + 1 : Nat) : Int) := wrap_nat (by omega)
  rw [ew]
  refine Ev.bind (ibelow_ev (n + 1) (by omega) (ds n) h0 (by omega)) ?_
  have c0 := cnt_nonneg (ds n) (n + 1)
  rcases ho with ⟨rfl, hno⟩ | ⟨r, rfl, hr, hr13, hs, hno⟩
  · have e : cnt (ds n) (10 ^ 13) = cnt (ds n) (n + 1) := cnt_gap (by omega) (fun x h2 h3 => hno x (by omega) h3)
    rw [cnt_full] at e
    exact Ev.bind (iofSum_big (ds n) (cnt (ds n) (n + 1)) c0 (by omega)) (ev_neg (by simp) (ev_eq fun _ => rfl))
  · have e : cnt (ds n) r = cnt (ds n) (n + 1) := cnt_gap hr (fun x h2 h3 => hno x (by omega) h3)
    have hh := iofSum_hit r hr13
    rw [hs] at hh
    rw [← e]
    refine Ev.bind hh ?_
    have hfin : fin ((r : Int), true) = if (r : Int) > 1000000000000 then (0, false) else ((r : Int), true) := rfl
    rw [hfin]
    by_cases c : (r : Int) ≤ 1000000000000
    · rw [if_neg (show ¬ (r : Int) > 1000000000000 by omega)]
      exact ev_pos (decide_eq_true c) (ev_eq fun _ => rfl)
    · rw [if_pos (show (r : Int) > 1000000000000 by omega)]
      refine ev_neg ?_ (ev_eq fun _ => rfl)
      simp only [decide_eq_true_eq]
      exact c

theorem implLast (n : Nat) (hn : n ≤ 10 ^ 12) (o : Int × Bool) (ho : LastOut n o) : Ev (fun k => impl_LastWithSum.f k (n : Int)) o := by
  unfold impl_LastWithSum.f impl_isLeast.f
  rw [within_eq]
  simp only [Option.bind_some]
  refine ev_pos (by simp; omega) (Ev.bind (idigitSum_ev n (by omega)) (Ev.bind (idigitSum_ev n (by omega)) ?_))
  have h0 := ds_nonneg n
  have h1 := ds_le 13 n (by omega)
  refine Ev.bind (ibelow_ev n (by omega) (ds n) h0 (by omega)) ?_
  have c0 := cnt_nonneg (ds n) n
  have c1 := cnt_le (ds n) n
  rw [wrap_of (by omega) (by omega)]
  rcases ho with ⟨rfl, hno⟩ | ⟨r, rfl, hr, hs, hno⟩
  · have e : cnt (ds n) n = cnt (ds n) 0 := cnt_gap (Nat.zero_le n) (fun x _ hx => hno x hx)
    have e0 : cnt (ds n) 0 = 0 := rfl
    exact Ev.bind (iofSum_neg (ds n) (cnt (ds n) n - 1) (by omega)) (ev_eq fun _ => rfl)
  · have e : cnt (ds n) n = cnt (ds n) (r + 1) := cnt_gap hr (fun x h2 h3 => hno x h2 h3)
    have e2 : cnt (ds n) (r + 1) = cnt (ds n) r + 1 := cnt_hit hs
    have e3 : cnt (ds n) n - 1 = cnt (ds r) r := by rw [hs]; omega
    have hh := iofSum_hit r (by omega)
    rw [hs] at hh e3
    rw [e3]
    refine Ev.bind hh (ev_eq fun _ => ?_)
    rw [decide_eq_true (by omega)]

/-! ### next and last numbers with a sum: both sides -/
theorem NL_all (a : Int) : (∃ n : Nat, a = n ∧ n ≤ 1000000000000 ∧ ∃ o o', NextOut n o ∧ LastOut n o' ∧ Ev (fun k => impl_NextWithSum.f k a) (fin o) ∧ Ev (fun k => spec_NextWithSum.f k a) (fin o) ∧ Ev (fun k => impl_LastWithSum.f k a) o' ∧ Ev (fun k => spec_LastWithSum.f k a) o') ∨
    (Ev (fun k => impl_NextWithSum.f k a) (0, false) ∧ Ev (fun k => spec_NextWithSum.f k a) (0, false) ∧ Ev (fun k => impl_LastWithSum.f k a) (0, false) ∧ Ev (fun k => spec_LastWithSum.f k a) (0, false)) := by
  by_cases h : 0 ≤ a ∧ a ≤ 1000000000000
  · obtain ⟨n, rfl⟩ : ∃ n : Nat, a = (n : Int) := ⟨a.toNat, by omega⟩
    have hn : n ≤ 10 ^ 12 := by omega
    have e : ds (n % 10 ^ 0) = 0 := by rw [Nat.pow_zero, Nat.mod_one]; exact ds_small (by omega)
    obtain ⟨o, h1, h2⟩ := leNear_next n hn 13 0 (by omega) (fun j hj => by omega)
    obtain ⟨o', h3, h4⟩ := leNear_last n hn 13 0 (by omega) (fun j hj => by omega)
    rw [e] at h1 h3
    refine .inl ⟨n, rfl, by omega, o, o', h2, h4, implNext n hn o h2, ?_, implLast n hn o' h4, ?_⟩
    · unfold spec_NextWithSum.f spec_leNumber.f spec_leNear.f
      rw [l1In_eq]
      simp only [Option.bind_some]
      refine ev_pos (by simp; omega) ?_
      refine Ev.bind h1 (ev_eq fun _ => ?_)
      unfold fin
      split
      · split <;> rfl
      · rfl
    · unfold spec_LastWithSum.f spec_leNumber.f spec_leNear.f
      rw [l1In_eq]
      simp only [Option.bind_some]
      refine ev_pos (by simp; omega) ?_
      exact Ev.bind h3 (ev_eq fun _ => rfl)
  · refine .inr ⟨ev_eq fun k => ?_, ev_eq fun k => ?_, ev_eq fun k => ?_, ev_eq fun k => ?_⟩
    · unfold impl_NextWithSum.f impl_isLeast.f
      rw [within_eq]
      simp only [Option.bind_some]
      rw [if_neg (by simpa using h)]
    · unfold spec_NextWithSum.f spec_leNumber.f
      rw [l1In_eq]
      simp only [Option.bind_some]
      rw [if_neg (by simpa using h)]
    · unfold impl_LastWithSum.f impl_isLeast.f
      rw [within_eq]
      simp only [Option.bind_some]
      rw [if_neg (by simpa using h)]
    · unfold spec_LastWithSum.f spec_leNumber.f
      rw [l1In_eq]
      simp only [Option.bind_some]
      rw [if_neg (by simpa using h)]
/-- What a next number tells: back to where it came from. -/
theorem next_back (n : Nat) (hn : n ≤ 1000000000000) (o : Int × Bool) (h : NextOut n o) (ht : (fin o).2 = true) : ∃ r : Nat, (fin o).1 = r ∧ n < r ∧ r ≤ 1000000000000 ∧ ds r = ds n ∧ Ev (fun k => impl_LastWithSum.f k (r : Int)) ((n : Int), true) := by
  rcases h with ⟨rfl, _⟩ | ⟨r, rfl, h1, h2, h3, h4⟩
  · simp [fin] at ht
  · have e : fin ((r : Int), true) = if (r : Int) > 1000000000000 then (0, false) else ((r : Int), true) := rfl
    rw [e] at ht ⊢
    by_cases c : (r : Int) > 1000000000000
    · rw [if_pos c] at ht; simp at ht
    · rw [if_neg c]
      exact ⟨r, rfl, h1, by omega, h3, implLast r (by omega) _ (.inr ⟨n, rfl, h1, h3.symm, fun x hx hx2 => by rw [h3]; exact h4 x hx hx2⟩)⟩
theorem last_back (n : Nat) (hn : n ≤ 1000000000000) (o : Int × Bool) (h : LastOut n o) (ht : o.2 = true) : ∃ r : Nat, o.1 = r ∧ r < n ∧ ds r = ds n ∧ Ev (fun k => impl_NextWithSum.f k (r : Int)) ((n : Int), true) := by
  rcases h with ⟨rfl, _⟩ | ⟨r, rfl, h1, h3, h4⟩
  · simp at ht
  · refine ⟨r, rfl, h1, h3, ?_⟩
    have := implNext r (by omega) ((n : Int), true) (.inr ⟨n, rfl, h1, by omega, h3.symm, fun x hx hx2 => by rw [h3]; exact h4 x hx hx2⟩)
    have e : fin ((n : Int), true) = if (n : Int) > 1000000000000 then (0, false) else ((n : Int), true) := rfl
    rw [e, if_neg (by omega)] at this
    exact this
theorem fill_first (s : Nat) (h : s ≤ 108) : Ev (fun k => impl_LastWithSum.f k ((fillLo 12 s : Nat) : Int)) (0, false) := by
  obtain ⟨h1, h2, h3⟩ := fillLo_spec 12 s (by omega)
  exact implLast (fillLo 12 s) (by omega) (0, false) (.inl ⟨rfl, fun y hy hd => by have := h3 y (by omega) (by rw [hd, h2]); omega⟩)
theorem LB_all (a b : Int) : (∃ s p : Nat, ∃ o, a = s ∧ b = p ∧ s ≤ 108 ∧ 1 ≤ p ∧ p ≤ 1000000000000 ∧ leastOf s p o ∧ Ev (fun k => impl_LeastBoth.f k a b) o ∧ Ev (fun k => spec_LeastBoth.f k a b) o) ∨
    (Ev (fun k => impl_LeastBoth.f k a b) (0, false) ∧ Ev (fun k => spec_LeastBoth.f k a b) (0, false)) := by
  by_cases c : (0 ≤ a ∧ a ≤ 108) ∧ (1 ≤ b ∧ b ≤ 1000000000000)
  · obtain ⟨s, rfl⟩ : ∃ s : Nat, a = (s : Int) := ⟨a.toNat, by omega⟩
    obtain ⟨p, rfl⟩ : ∃ p : Nat, b = (p : Int) := ⟨b.toNat, by omega⟩
    obtain ⟨o, ho, he⟩ := sLB_ev s p (by omega) (by omega) (by omega)
    obtain ⟨o', ho', he'⟩ := iLB_ev s p (by omega) (by omega) (by omega)
    obtain rfl := leastOf_uniq ho ho'
    exact .inl ⟨s, p, o, rfl, rfl, by omega, by omega, by omega, ho, he', he⟩
  · exact .inr ⟨iLB_out a b c, sLB_out a b c⟩

/-! ### choices out of bytes: each of them is made -/
def Bytes (l : List Int) : Prop := ∀ x ∈ l, (Lit.int .u8 x).wf = true
theorem byte_range {l : List Int} (h : Bytes l) {i : Int} (h0 : 0 ≤ i) (h1 : i < (l.length : Int)) : 0 ≤ rd l i ∧ rd l i ≤ 255 := by
  have hm : rd l i ∈ l := by
    unfold rd
    rw [List.getD_eq_getElem?_getD, List.getElem?_eq_getElem (by omega)]
    exact List.getElem_mem _
  have := h _ hm
  have h2 := by simpa only [Lit.wf, Bool.and_eq_true, decide_eq_true_eq] using this
  exact ⟨h2.1, h2.2⟩
theorem and255 (x : Int) (h0 : 0 ≤ x) (h1 : x < 18446744073709551616) : 0 ≤ Go.bits .and .u64 x 255 ∧ Go.bits .and .u64 x 255 ≤ 255 := by
  obtain ⟨n, rfl⟩ : ∃ n : Nat, x = (n : Int) := ⟨x.toNat, by omega⟩
  have h := bits_and_u64_nat n 255 (by omega) (by omega)
  have h2 := Nat.and_le_right (n := n) (m := 255)
  rw [show ((255 : Nat) : Int) = 255 from rfl] at h
  rw [h]
  omega
theorem u64_range (x : Int) : 0 ≤ IntKind.u64.wrap x ∧ IntKind.u64.wrap x < 18446744073709551616 := by
  rw [IntKind.wrap_u64]; omega
theorem tail255 (x : Int) : ∃ v, wrap64 (Go.bits .and .u64 (IntKind.u64.wrap x / 1099511627776) 255) = v ∧ 0 ≤ v ∧ v ≤ 255 := by
  have h := u64_range x
  have h2 := and255 (IntKind.u64.wrap x / 1099511627776) (by omega) (by omega)
  exact ⟨_, wrap_of (by omega) (by omega), h2.1, h2.2⟩
theorem next_ok (l : List Int) (hl : Bytes l) (a s : Int) (h0 : 0 ≤ a) (h1 : a ≤ 1000000000000) : ∃ v s', spec_l1Cur_next.f l a s = some (v, a + 1, s') ∧ 0 ≤ v ∧ v ≤ 255 := by
  unfold spec_l1Cur_next.f
  have hw : wrap64 (a + 1) = a + 1 := wrap_of (by omega) (by omega)
  rw [hw]
  by_cases c : a < (l.length : Int)
  · have hb := byte_range hl h0 c
    rw [if_pos c, if_pos h0, if_pos (by omega), wrap_of (x := rd l a) (by omega) (by omega)]
    exact ⟨_, _, rfl, hb.1, hb.2⟩
  · rw [if_neg c, if_neg (by omega)]
    obtain ⟨v, hv, g⟩ := tail255 (IntKind.u64.wrap (IntKind.u64.wrap (s * 6364136223846793005)) + 1442695040888963407)
    rw [hv]
    exact ⟨v, _, rfl, g.1, g.2⟩
theorem tmod_range {x n : Int} (h0 : 0 ≤ x) (hn : 0 < n) : 0 ≤ Int.tmod x n ∧ Int.tmod x n < n := by
  rw [Int.tmod_eq_emod_of_nonneg h0]
  exact ⟨Int.emod_nonneg _ (by omega), Int.emod_lt_of_pos _ hn⟩
theorem pick_ok (l : List Int) (hl : Bytes l) (a s n : Int) (h0 : 0 ≤ a) (h1 : a ≤ 900000000000) : ∃ v a' s', spec_l1Cur_pick.f l a s n = some (v, a', s') ∧ 0 ≤ v ∧ (v < n ∨ v = 0) ∧ a ≤ a' ∧ a' ≤ a + 2 := by
  unfold spec_l1Cur_pick.f
  by_cases c : n ≤ 1
  · rw [if_pos c]
    exact ⟨0, a, s, rfl, Int.le_refl 0, .inr rfl, Int.le_refl a, by omega⟩
  · rw [if_neg c]
    obtain ⟨v, s1, hv, v0, v1⟩ := next_ok l hl a s h0 (by omega)
    rw [hv]
    simp only [Option.bind_some]
    by_cases c2 : n > 200
    · rw [if_pos c2]
      obtain ⟨u, s2, hu, u0, u1⟩ := next_ok l hl (a + 1) s1 (by omega) (by omega)
      rw [hu]
      simp only [Option.bind_some]
      rw [if_neg (by omega), wrap_of (x := v * 256) (by omega) (by omega), wrap_of (x := v * 256 + u) (by omega) (by omega)]
      have ht := tmod_range (x := v * 256 + u) (n := n) (by omega) (by omega)
      exact ⟨_, _, _, rfl, ht.1, .inl ht.2, by omega, by omega⟩
    · rw [if_neg c2, if_neg (by omega)]
      have ht := tmod_range (x := v) (n := n) v0 (by omega)
      exact ⟨_, _, _, rfl, ht.1, .inl ht.2, by omega, by omega⟩
theorem among_ok (l : List Int) (hl : Bytes l) (a s : Int) (m : List Int) (hm : 0 < m.length) (h0 : 0 ≤ a) (h1 : a ≤ 900000000000) : ∃ v a' s', spec_l1Cur_among.f l a s m = some (v, a', s') ∧ v ∈ m ∧ a ≤ a' ∧ a' ≤ a + 2 := by
  unfold spec_l1Cur_among.f
  obtain ⟨v, a', s', hv, v0, v1, g⟩ := pick_ok l hl a s (m.length : Int) h0 h1
  rw [hv]
  simp only [Option.bind_some]
  have hlt : v < (m.length : Int) := by rcases v1 with h | h <;> omega
  rw [if_pos v0, if_pos hlt]
  refine ⟨_, a', s', rfl, ?_, g⟩
  unfold rd
  rw [List.getD_eq_getElem?_getD, List.getElem?_eq_getElem (by omega)]
  exact List.getElem_mem _
theorem one_ok (l : List Int) (hl : Bytes l) (a s n : Int) (h0 : 0 ≤ a) (h1 : a ≤ 900000000000) : ∃ v a' s', spec_l1Cur_one.f l a s n = some (v, a', s') ∧ a ≤ a' ∧ a' ≤ a + 2 := by
  unfold spec_l1Cur_one.f
  obtain ⟨v, a', s', hv, _, _, g⟩ := pick_ok l hl a s n h0 h1
  rw [hv]
  exact ⟨_, a', s', rfl, g⟩

/-! ### what is drawn -/
theorem least_ok (l : List Int) (hl : Bytes l) (a s : Int) (h0 : 0 ≤ a) (h1 : a ≤ 800000000000) : ∃ v a' s', spec_l1Cur_least.f l a s = some (v, a', s') := by
  unfold spec_l1Cur_least.f
  obtain ⟨x, a1, s1, hx, _, _, g1, g2⟩ := pick_ok l hl a s 10 h0 (by omega)
  rw [hx]
  simp only [Option.bind_some]
  by_cases c : x = 0
  · rw [if_pos c]
    obtain ⟨y, a2, s2, hy, _⟩ := among_ok l hl a1 s1 [(-1), 0, 1, 9, 10, 999999999999, 1000000000000, 1000000000001, 4611686018427387904] (by decide) (by omega) (by omega)
    rw [hy]
    exact ⟨_, a2, s2, rfl⟩
  · rw [if_neg c]
    by_cases c1 : x = 1
    · rw [if_pos c1]
      obtain ⟨y1, a2, s2, e1, _, _, f1, f2⟩ := pick_ok l hl a1 s1 250 (by omega) (by omega)
      rw [e1]; simp only [Option.bind_some]
      obtain ⟨y2, a3, s3, e2, _, _, f3, f4⟩ := pick_ok l hl a2 s2 250 (by omega) (by omega)
      rw [e2]; simp only [Option.bind_some]
      obtain ⟨y3, a4, s4, e3, _, _, f5, f6⟩ := pick_ok l hl a3 s3 250 (by omega) (by omega)
      rw [e3]; simp only [Option.bind_some]
      obtain ⟨y4, a5, s5, e4, _, _, f7, f8⟩ := pick_ok l hl a4 s4 250 (by omega) (by omega)
      rw [e4]; simp only [Option.bind_some]
      obtain ⟨y5, a6, s6, e5, _⟩ := pick_ok l hl a5 s5 250 (by omega) (by omega)
      rw [e5]
      exact ⟨_, _, _, rfl⟩
    · rw [if_neg c1]
      by_cases c2 : x = 2
      · rw [if_pos c2]
        obtain ⟨y1, a2, s2, e1, _, _, f1, f2⟩ := pick_ok l hl a1 s1 250 (by omega) (by omega)
        rw [e1]; simp only [Option.bind_some]
        obtain ⟨y2, a3, s3, e2, _⟩ := pick_ok l hl a2 s2 12 (by omega) (by omega)
        rw [e2]
        exact ⟨_, _, _, rfl⟩
      · rw [if_neg c2]
        obtain ⟨y1, a2, s2, e1, _, _, f1, f2⟩ := pick_ok l hl a1 s1 250 (by omega) (by omega)
        rw [e1]; simp only [Option.bind_some]
        obtain ⟨y2, a3, s3, e2, _⟩ := pick_ok l hl a2 s2 40 (by omega) (by omega)
        rw [e2]
        exact ⟨_, _, _, rfl⟩
theorem dNext_ok (l : List Int) (hl : Bytes l) : ∃ v, spec_DrawNextWithSum.f l = some v := by
  obtain ⟨v, a, s, h⟩ := least_ok l hl 0 0 (by omega) (by omega)
  unfold spec_DrawNextWithSum.f
  rw [h]
  exact ⟨_, rfl⟩
theorem dSD_ok (l : List Int) (hl : Bytes l) : ∃ v, spec_DrawSumDivides.f l = some v := by
  obtain ⟨v, h⟩ := dNext_ok l hl
  unfold spec_DrawSumDivides.f
  rw [h]
  exact ⟨_, rfl⟩
theorem dLWS_ok (l : List Int) (hl : Bytes l) : ∃ v, spec_DrawLeastWithSum.f l = some v := by
  unfold spec_DrawLeastWithSum.f
  obtain ⟨x, a1, s1, hx, g1, g2⟩ := one_ok l hl 0 0 6 (by omega) (by omega)
  rw [hx]
  simp only [Option.bind_some]
  by_cases c : x = true
  · rw [if_pos c]
    obtain ⟨y, a2, s2, hy, _⟩ := among_ok l hl a1 s1 [(-1), 0, 1, 107, 108, 109, 4611686018427387904] (by decide) (by omega) (by omega)
    rw [hy]
    exact ⟨_, rfl⟩
  · rw [if_neg c]
    obtain ⟨y, a2, s2, hy, _⟩ := pick_ok l hl a1 s1 60 (by omega) (by omega)
    rw [hy]
    exact ⟨_, rfl⟩
theorem dCOD_ok (l : List Int) (hl : Bytes l) : ∃ v, spec_DrawCountOfDigits.f l = some v := by
  unfold spec_DrawCountOfDigits.f spec_DrawLeastOfDigits.f
  obtain ⟨x, a1, s1, hx, g1, g2⟩ := one_ok l hl 0 0 8 (by omega) (by omega)
  rw [hx]
  simp only [Option.bind_some]
  by_cases c : x = true
  · rw [if_pos c]
    obtain ⟨y, a2, s2, hy, _, e1, e2⟩ := among_ok l hl a1 s1 [(-1), 0, 1, 12, 13] (by decide) (by omega) (by omega)
    rw [hy]
    simp only [Option.bind_some]
    obtain ⟨z, a3, s3, hz, _⟩ := among_ok l hl a2 s2 [(-1), 0, 1, 108, 109] (by decide) (by omega) (by omega)
    rw [hz]
    exact ⟨_, rfl⟩
  · rw [if_neg c]
    obtain ⟨y, a2, s2, hy, _, _, e1, e2⟩ := pick_ok l hl a1 s1 8 (by omega) (by omega)
    rw [hy]
    simp only [Option.bind_some]
    obtain ⟨z, a3, s3, hz, _⟩ := pick_ok l hl a2 s2 (wrap64 ((wrap64 (9 * (wrap64 (1 + y)))) + 2)) (by omega) (by omega)
    rw [hz]
    exact ⟨_, rfl⟩
theorem dLB_loop (l : List Int) (hl : Bytes l) : ∀ (n : Nat) (x y a s : Int), n ≤ 100 → 0 ≤ a → a + 2 * n ≤ 800000000000 → ∃ v, Ev (fun k => spec_DrawLeastBoth.l0 k x y (n : Int) l a s) v := by
  intro n
  induction n with
  | zero =>
    intro x y a s _ h0 h1
    obtain ⟨z, a2, s2, hz, _⟩ := pick_ok l hl a s 9 (by omega) (by omega)
    refine ⟨(wrap64 (x + (wrap64 (Int.tdiv z 8))), y), ev_succ ?_⟩
    simp only [spec_DrawLeastBoth.l0]
    rw [hz]
    exact ev_neg (by omega) (ev_eq fun _ => rfl)
  | succ n ih =>
    intro x y a s hn h0 h1
    obtain ⟨z, a2, s2, hz, _, _, e1, e2⟩ := pick_ok l hl a s 9 (by omega) (by omega)
    obtain ⟨v, hv⟩ := ih (wrap64 (x + (wrap64 (1 + z)))) (wrap64 (y * (wrap64 (1 + z)))) a2 s2 (by omega) (by omega) (by omega)
    refine ⟨v, ev_succ ?_⟩
    simp only [spec_DrawLeastBoth.l0]
    rw [hz, show wrap64 (((n + 1 : Nat) : Int) - 1) = (n : Int) by rw [wrap_of (by omega) (by omega)]; omega]
    exact ev_pos (by omega) hv
theorem dLB_ok (l : List Int) (hl : Bytes l) : ∃ v, Ev (fun k => spec_DrawLeastBoth.f k l) v := by
  unfold spec_DrawLeastBoth.f
  obtain ⟨x, a1, s1, hx, g1, g2⟩ := one_ok l hl 0 0 6 (by omega) (by omega)
  rw [hx]
  simp only [Option.bind_some]
  by_cases c : x = true
  · simp only [if_pos c]
    obtain ⟨y, a2, s2, hy, _, e1, e2⟩ := among_ok l hl a1 s1 [(-1), 0, 1, 108, 109] (by decide) (by omega) (by omega)
    rw [hy]
    simp only [Option.bind_some]
    obtain ⟨z, a3, s3, hz, _⟩ := among_ok l hl a2 s2 [(-1), 0, 1, 282429536481, 1000000000000, 1000000000001] (by decide) (by omega) (by omega)
    rw [hz]
    exact ⟨_, ev_eq fun _ => rfl⟩
  · simp only [if_neg c]
    obtain ⟨y, a2, s2, hy, y0, y1, e1, e2⟩ := pick_ok l hl a1 s1 8 (by omega) (by omega)
    rw [hy]
    simp only [Option.bind_some]
    obtain ⟨n, rfl⟩ : ∃ n : Nat, y = (n : Int) := ⟨y.toNat, by omega⟩
    exact dLB_loop l hl n 0 1 a2 s2 (by omega) (by omega) (by omega)

/-! ### the law -/
theorem bne_self_not (a : Bool) : ¬ (a != a) = true := by simp
theorem j7_ev (a b : Int) (o : Int × Bool) (h : (∃ s p : Nat, a = s ∧ b = p ∧ s ≤ 108 ∧ 1 ≤ p ∧ p ≤ 1000000000000 ∧ leastOf s p o) ∨ o.2 = false) : Ev (fun k => laws_FnLeastOfSums.j7 k a b o.1 o.2) true := by
  refine ev_succ ?_
  simp only [laws_FnLeastOfSums.j7]
  by_cases c : o.2 = true
  · refine ev_pos c ?_
    rcases h with ⟨s, p, rfl, rfl, hs, hp1, hp2, ho⟩ | h
    · rcases ho with ⟨l, ⟨c1, c2, c3, c4, c5⟩, _, rfl⟩ | ⟨_, rfl⟩
      · have hok : okD l := fun x hx => (asc_all l 1 c1).2 x hx
        have hup := numL_up l hok
        have h12 : 10 ^ l.length ≤ 10 ^ 12 := Nat.pow_le_pow_right (by omega) c3
        have hds := ds_numL l.length l rfl hok
        have hpr := pr_numL (l.length - 1) l (by omega) hok
        rw [c4] at hds
        rw [c5] at hpr
        obtain ⟨m, hm, hle⟩ := lwp_law l c1 c2 c3 (by omega)
        rw [c5] at hm
        obtain ⟨f1, f2, f3⟩ := fillLo_spec 12 s (by omega)
        have hfl := f3 (numL 0 l) (by omega) hds
        have e1 : Ev (fun k => impl_ProductOfDigits.f k ((numL 0 l : Nat) : Int)) ((p : Int), true) := by
          unfold impl_ProductOfDigits.f impl_DigitProduct.f impl_isWritten.f
          rw [within_eq]
          simp only [Option.bind_some]
          have := idigitProduct_ev (numL 0 l) (by omega)
          rw [hpr] at this
          refine Ev.bind (a := ((p : Int), true)) ?_ (ev_eq fun _ => rfl)
          exact ev_pos (decide_eq_true (by omega)) (Ev.bind this (ev_eq fun _ => rfl))
        refine Ev.bind e1 (Ev.bind hm (Ev.bind (iLWS_in s hs) ?_))
        refine ev_pos rfl (ev_pos rfl (Ev.bind (liSum_ev (numL 0 l) (by omega)) ?_))
        exact ev_pos hds (ev_pos rfl (ev_neg (by dsimp only; omega) (ev_pos rfl (ev_neg (by dsimp only; omega) (ev_eq fun _ => rfl)))))
      · simp at c
    · rw [h] at c; simp at c
  · exact ev_neg c (ev_eq fun _ => rfl)
theorem law_l1 (n w : Nat) (x42 x43 x44 : Int) (x45 : Bool) (hw : HW (max n 1) w) (h : Ev (fun k => laws_FnLeastOfSums.j7 k x42 x43 x44 x45) true) :
    ∀ e m : Nat, m + e = w → n ≤ m → Ev (fun k => laws_FnLeastOfSums.l1 k (w : Int) x42 x43 x44 x45 (m : Int)) true := by
  obtain ⟨h1, h2, h3, h4⟩ := hw
  intro e
  induction e with
  | zero =>
    intro m hm _
    refine ev_succ ?_
    simp only [laws_FnLeastOfSums.l1]
    exact ev_neg (by omega) h
  | succ e ih =>
    intro m hm hn
    refine ev_succ ?_
    simp only [laws_FnLeastOfSums.l1]
    have hnext := ih (m + 1) (by omega) (by omega)
    rw [wrap_nat (by omega)]
    refine ev_pos (by omega) ?_
    by_cases c : 0 < m
    · refine ev_pos (by omega) (Ev.bind (liSum_ev m (by omega)) (ev_neg (ds_ne c) (ev_neg (h4 m (by omega) (by omega)) hnext)))
    · exact ev_neg (by omega) hnext
theorem j5_ev (a : Int) (x42 x43 x44 : Int) (x45 : Bool) (o : Int × Bool) (ho : (∃ n w : Nat, a = n ∧ 1 ≤ w ∧ HW (max n 1) w ∧ o = ((w : Int), true)) ∨ o.2 = false) (h : Ev (fun k => laws_FnLeastOfSums.j7 k x42 x43 x44 x45) true) :
    Ev (fun k => laws_FnLeastOfSums.j5 k a o.1 o.2 x42 x43 x44 x45) true := by
  refine ev_succ ?_
  simp only [laws_FnLeastOfSums.j5]
  rcases ho with ⟨n, w, rfl, hw1, hw, rfl⟩ | ho
  · have hh := hw
    obtain ⟨h1, h2, h3, h4⟩ := hh
    refine ev_pos rfl (ev_neg (by dsimp only; omega) (ev_neg (by dsimp only; omega) (Ev.bind (liSum_ev w (by omega)) (ev_neg (ds_ne hw1) (ev_pos h3 ?_)))))
    exact law_l1 n w x42 x43 x44 x45 hw h (w - n) n (by omega) (Nat.le_refl _)
  · rw [ho]; exact ev_neg (by simp) h
theorem law_l0 (d s : Nat) (hg : goodD d s) (x37 x38 : Int) (x39 : Bool) (x42 x43 x44 : Int) (x45 : Bool) (h : Ev (fun k => laws_FnLeastOfSums.j5 k x37 x38 x39 x42 x43 x44 x45) true) :
    ∀ e j : Nat, j + e = d → 1 ≤ j → Ev (fun k => laws_FnLeastOfSums.l0 k (d : Int) ((lowOf d s : Nat) : Int) ((fillHi d s : Nat) : Int) x37 x38 x39 x42 x43 x44 x45 ((10 ^ (j - 1) : Nat) : Int) (j : Int)) true := by
  have hh := hg
  obtain ⟨g1, g2, g3, g4⟩ := hh
  obtain ⟨a1, a2, a3, a4⟩ := lowOf_spec d s hg
  obtain ⟨b1, b2, b3⟩ := fillHi_spec d s g3
  intro e
  induction e with
  | zero =>
    intro j hj h1
    obtain rfl : j = d := by omega
    refine ev_succ ?_
    simp only [laws_FnLeastOfSums.l0]
    have hp := p10n (j - 1)
    have hq : fillHi j s / 10 ^ (j - 1) ≤ 9 := by
      have e1 : 10 ^ j = 10 ^ (j - 1) * 10 := by rw [← Nat.pow_succ]; congr 1; omega
      have := Nat.div_lt_of_lt_mul (show fillHi j s < 10 ^ (j - 1) * 10 by omega)
      omega
    have hw : wrap64 (Int.tdiv ((fillHi j s : Nat) : Int) ((10 ^ (j - 1) : Nat) : Int)) = ((fillHi j s / 10 ^ (j - 1) : Nat) : Int) := by
      rw [tdiv_nat]; exact wrap_nn (by omega)
    rw [hw]
    refine ev_neg (by omega) ?_
    by_cases c : (j : Int) > 1
    · have := a3 (by omega)
      exact ev_pos c (ev_neg (by omega) (ev_neg (by omega) (ev_neg (by omega) h)))
    · exact ev_neg c (ev_neg (by omega) (ev_neg (by omega) h))
  | succ e ih =>
    intro j hj h1
    refine ev_succ ?_
    simp only [laws_FnLeastOfSums.l0]
    have hb : 10 ^ (j - 1) ≤ 10 ^ 12 := Nat.pow_le_pow_right (by omega) (by omega)
    have e1 : wrap64 (((10 ^ (j - 1) : Nat) : Int) * 10) = ((10 ^ (j + 1 - 1) : Nat) : Int) := by
      have : 10 ^ (j + 1 - 1) = 10 ^ (j - 1) * 10 := by rw [← Nat.pow_succ]; congr 1; omega
      rw [this, show ((10 ^ (j - 1) : Nat) : Int) * 10 = ((10 ^ (j - 1) * 10 : Nat) : Int) by rw [Int.natCast_mul]; rfl]
      exact wrap_nn (by omega)
    rw [e1, wrap_nat (i := j) (by omega)]
    exact ev_pos (by omega) (ih (j + 1) (by omega) (by omega))
theorem j3_ev (a0 a1 : Int) (lo hi co : Int × Bool) (hR : (∃ d s : Nat, a0 = d ∧ a1 = s ∧ goodD d s ∧ lo = ((lowOf d s : Int), true) ∧ hi = ((fillHi d s : Int), true) ∧ co = (CD d (s : Int), true)) ∨ lo.2 = false) (x37 x38 : Int) (x39 : Bool) (x42 x43 x44 : Int) (x45 : Bool) (h : Ev (fun k => laws_FnLeastOfSums.j5 k x37 x38 x39 x42 x43 x44 x45) true) :
    Ev (fun k => laws_FnLeastOfSums.j3 k a0 a1 lo.1 lo.2 hi.1 co.1 x37 x38 x39 x42 x43 x44 x45) true := by
  refine ev_succ ?_
  simp only [laws_FnLeastOfSums.j3]
  rcases hR with ⟨d, s, rfl, rfl, hg, rfl, rfl, rfl⟩ | hR
  · obtain ⟨a1, a2, a3, a4⟩ := lowOf_spec d s hg
    obtain ⟨c1, c2, c3⟩ := count_one d s hg
    have hh := hg
    obtain ⟨g1, g2, g3, g4⟩ := hh
    obtain ⟨b1, b2, b3⟩ := fillHi_spec d s g3
    have h12 : 10 ^ d ≤ 10 ^ 12 := Nat.pow_le_pow_right (by omega) g2
    refine ev_pos rfl (Ev.bind (liSum_ev (lowOf d s) (by omega)) (ev_pos a2 (Ev.bind (liSum_ev (fillHi d s) (by omega)) (ev_pos b2 (ev_neg (by dsimp only; omega) (ev_neg ?_ ?_))))))
    · have e : ((CD d (s : Int) == 1) : Bool) = (((lowOf d s : Nat) : Int) == ((fillHi d s : Nat) : Int)) := by
        rw [Bool.eq_iff_iff, beq_iff_eq, beq_iff_eq, c3]; omega
      dsimp only
      rw [e]
      simp
    · exact law_l0 d s hg x37 x38 x39 x42 x43 x44 x45 h (d - 1) 1 (by omega) (by omega)
  · rw [hR]; exact ev_neg (by simp) h
theorem j2_ev (a : Int) (lw : Int × Bool) (hL : (∃ s : Nat, a = s ∧ s ≤ 108 ∧ lw = ((fillLo 12 s : Int), true)) ∨ lw.2 = false) (x23 x24 x25 : Int) (x26 : Bool) (x29 x33 x37 x38 : Int) (x39 : Bool) (x42 x43 x44 : Int) (x45 : Bool)
    (h : Ev (fun k => laws_FnLeastOfSums.j3 k x23 x24 x25 x26 x29 x33 x37 x38 x39 x42 x43 x44 x45) true) : Ev (fun k => laws_FnLeastOfSums.j2 k a lw.1 lw.2 x23 x24 x25 x26 x29 x33 x37 x38 x39 x42 x43 x44 x45 false) true := by
  refine ev_succ ?_
  simp only [laws_FnLeastOfSums.j2]
  refine ev_neg (by simp) ?_
  rcases hL with ⟨s, rfl, hs, rfl⟩ | hL
  · obtain ⟨f1, f2, f3⟩ := fillLo_spec 12 s (by omega)
    exact ev_pos rfl (Ev.bind (fill_first s hs) (Ev.bind (liSum_ev (fillLo 12 s) (by omega)) (ev_pos f2 (ev_neg (by simp) h))))
  · rw [hL]; exact ev_neg (by simp) h
/-- The draws and both sides of them, up to the join. -/
theorem j1_ev (l : List Int) (hl : Bytes l) : Ev (fun k => laws_FnLeastOfSums.j1 k l) true := by
  refine ev_succ ?_
  simp only [laws_FnLeastOfSums.j1]
  obtain ⟨a, ha⟩ := dLWS_ok l hl
  obtain ⟨⟨d0, d1⟩, hd⟩ := dCOD_ok l hl
  obtain ⟨m, hm⟩ := dSD_ok l hl
  obtain ⟨⟨s0, s1⟩, hs⟩ := dLB_ok l hl
  obtain ⟨lw, i1, i2, hL⟩ : ∃ lw, Ev (fun k => impl_LeastWithSum.f k a) lw ∧ Ev (fun k => spec_LeastWithSum.f k a) lw ∧ ((∃ s : Nat, a = s ∧ s ≤ 108 ∧ lw = ((fillLo 12 s : Int), true)) ∨ lw.2 = false) := by
    by_cases c : 0 ≤ a ∧ a ≤ 108
    · obtain ⟨s, rfl⟩ : ∃ s : Nat, a = (s : Int) := ⟨a.toNat, by omega⟩
      exact ⟨_, iLWS_in s (by omega), sLWS_in s (by omega), .inl ⟨s, rfl, by omega, rfl⟩⟩
    · exact ⟨_, (LWS_out a c).1, (LWS_out a c).2, .inr rfl⟩
  obtain ⟨lo, hi, co, ⟨r1, r2, r3, r4, r5, r6⟩, hhi, hco, hR⟩ : ∃ lo hi co, digsR d0 d1 lo hi co ∧ hi.2 = lo.2 ∧ (if co.2 = true then (lo.2 != (decide (co.1 > 0))) else (lo.2 != false)) = false ∧ ((∃ d s : Nat, d0 = d ∧ d1 = s ∧ goodD d s ∧ lo = ((lowOf d s : Int), true) ∧ hi = ((fillHi d s : Int), true) ∧ co = (CD d (s : Int), true)) ∨ lo.2 = false) := by
    rcases digs_all d0 d1 with ⟨d, s, e1, e2, hg, hr⟩ | ⟨c, b, hcb, hr⟩
    · have := (count_one d s hg).2.1
      refine ⟨_, _, _, hr, rfl, ?_, .inl ⟨d, s, e1, e2, hg, rfl, rfl, rfl⟩⟩
      dsimp only
      rw [if_pos rfl, decide_eq_true (by omega)]; rfl
    · refine ⟨_, _, _, hr, rfl, ?_, .inr rfl⟩
      dsimp only
      by_cases cb : b = true
      · rw [if_pos cb, decide_eq_false (fun h => hcb ⟨cb, h⟩)]; rfl
      · rw [if_neg cb]; rfl
  obtain ⟨sd, m1, m2, hM⟩ : ∃ sd, Ev (fun k => impl_SumDivides.f k m) sd ∧ Ev (fun k => spec_SumDivides.f k m) sd ∧ ((∃ n w : Nat, m = n ∧ 1 ≤ w ∧ HW (max n 1) w ∧ sd = ((w : Int), true)) ∨ sd.2 = false) := by
    rcases SD_all m with ⟨n, w, e1, e2, e3, e4, e5⟩ | ⟨e4, e5⟩
    · exact ⟨_, e4, e5, .inl ⟨n, w, e1, e2, e3, rfl⟩⟩
    · exact ⟨_, e4, e5, .inr rfl⟩
  obtain ⟨lb, b1, b2, hB⟩ : ∃ lb, Ev (fun k => impl_LeastBoth.f k s0 s1) lb ∧ Ev (fun k => spec_LeastBoth.f k s0 s1) lb ∧ ((∃ s p : Nat, s0 = s ∧ s1 = p ∧ s ≤ 108 ∧ 1 ≤ p ∧ p ≤ 1000000000000 ∧ leastOf s p lb) ∨ lb.2 = false) := by
    rcases LB_all s0 s1 with ⟨s, p, o, e1, e2, e3, e4, e5, e6, e7, e8⟩ | ⟨e7, e8⟩
    · exact ⟨_, e7, e8, .inl ⟨s, p, e1, e2, e3, e4, e5, e6⟩⟩
    · exact ⟨_, e7, e8, .inr rfl⟩
  have h2 := j2_ev a lw hL d0 d1 lo.1 lo.2 hi.1 co.1 m sd.1 sd.2 s0 s1 lb.1 lb.2 (j3_ev d0 d1 lo hi co hR m sd.1 sd.2 s0 s1 lb.1 lb.2 (j5_ev m s0 s1 lb.1 lb.2 sd hM (j7_ev s0 s1 lb hB)))
  refine ev_bind ha (Ev.bind i1 (Ev.bind i2 (ev_bind hd (Ev.bind r1 (Ev.bind r2 (Ev.bind r3 (Ev.bind r4 (Ev.bind r5 (Ev.bind r6 (ev_bind hm (Ev.bind m1 (Ev.bind m2 (Ev.bind hs (Ev.bind b1 (Ev.bind b2 ?_)))))))))))))))
  refine ev_neg (bne_self_not _) (ev_pos rfl (ev_neg (bne_self_not _) (ev_pos rfl (ev_neg (bne_self_not _) (ev_pos rfl (ev_neg (bne_self_not _) (ev_pos rfl (ev_neg (bne_self_not _) (ev_pos rfl (ev_neg (bne_self_not _) (ev_pos rfl (ev_neg (by rw [hhi]; exact bne_self_not _) ?_))))))))))))
  by_cases cc : co.2 = true
  · rw [if_pos cc] at hco
    refine ev_pos cc ?_
    rw [hco]
    exact h2
  · rw [if_neg cc] at hco
    refine ev_neg cc ?_
    rw [hco]
    exact h2
theorem j0_ev (l : List Int) (hl : Bytes l) (a : Int) (o : Int × Bool) (h : (∃ n : Nat, a = n ∧ n ≤ 1000000000000 ∧ LastOut n o) ∨ o.2 = false) : Ev (fun k => laws_FnLeastOfSums.j0 k l a o.1 o.2) true := by
  refine ev_succ ?_
  simp only [laws_FnLeastOfSums.j0]
  by_cases c : o.2 = true
  · refine ev_pos c ?_
    rcases h with ⟨n, rfl, hn, ho⟩ | h
    · obtain ⟨r, e1, e2, e3, e4⟩ := last_back n hn o ho c
      rw [e1]
      refine Ev.bind e4 (ev_neg (by omega) (ev_neg (by omega) (Ev.bind (liSum_ev r (by omega)) (Ev.bind (liSum_ev n (by omega)) (ev_pos e3 (ev_pos rfl (ev_pos rfl (j1_ev l hl))))))))
    · rw [h] at c; simp at c
  · exact ev_neg c (j1_ev l hl)
theorem FnLeastOfSums : laws_FnLeastOfSums.Pure := by
  intro l0 l1 hl0 hb0 hw0 hl1 hb1 hw1
  refine Ev.rounds ?_
  unfold laws_FnLeastOfSums.f laws_big.f
  by_cases hbig : (l0.length : Int) > 1048576
  · rw [if_pos hbig]; exact ev_bind rfl (ev_pos rfl (ev_eq fun _ => rfl))
  rw [if_neg hbig]
  by_cases hb : decide ((l1.length : Int) > wrap64 (1048576 - (l0.length : Int))) = true
  · exact ev_bind rfl (ev_pos hb (ev_eq fun _ => rfl))
  refine ev_bind rfl (ev_neg hb ?_)
  obtain ⟨a, ha⟩ := dNext_ok l0 hw0
  refine ev_bind ha ?_
  rcases NL_all a with ⟨n, rfl, hn, o, o', h1, h2, e1, e2, e3, e4⟩ | ⟨e1, e2, e3, e4⟩
  · have hj := j0_ev l1 hw1 (n : Int) o' (.inl ⟨n, rfl, hn, h2⟩)
    refine Ev.bind e1 (Ev.bind e2 (Ev.bind e3 (Ev.bind e4 (ev_neg (bne_self_not _) (ev_pos rfl (ev_neg (bne_self_not _) (ev_pos rfl ?_)))))))
    by_cases c : (fin o).2 = true
    · obtain ⟨r, q1, q2, q3, q4, q5⟩ := next_back n hn o h1 c
      refine ev_pos c ?_
      rw [q1]
      exact Ev.bind q5 (ev_neg (by omega) (Ev.bind (liSum_ev r (by omega)) (Ev.bind (liSum_ev n (by omega)) (ev_pos q4 (ev_pos rfl (ev_pos rfl hj))))))
    · exact ev_neg c hj
  · refine Ev.bind e1 (Ev.bind e2 (Ev.bind e3 (Ev.bind e4 (ev_neg (bne_self_not _) (ev_pos rfl (ev_neg (bne_self_not _) (ev_pos rfl (ev_neg (by simp) ?_))))))))
    exact j0_ev l1 hw1 a (0, false) (.inr rfl)
end Go.Proofs.YtogonichanoeaaaGreatDoor.Pure

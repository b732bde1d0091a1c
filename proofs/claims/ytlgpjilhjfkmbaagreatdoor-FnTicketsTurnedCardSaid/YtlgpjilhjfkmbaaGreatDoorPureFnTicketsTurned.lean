/- TicketsTurned: halves have their sums, turned, exchanged and nines' tickets are lucky as well, first ones of a sum are first, and numbers tell tickets (numbers, lists and texts alone). -/
import Derived.Test.YtlgpjilhjfkmbaaGreatDoorPFnTicketsTurnedx11
namespace Go.Proofs.YtlgpjilhjfkmbaaGreatDoor.Pure
open Go.RowKit Go.Proofs.YtlgpjilhjfkmbaaGreatDoor.PFnTicketsTurned Go.Proofs.YtlgpjilhjfkmbaaGreatDoorW.PrintWords Go.Proofs.YtlgpjilhjfkmbaaGreatDoorW.PrintLast
set_option linter.unusedVariables false
set_option linter.unusedSimpArgs false

theorem wrap_of {x : Int} (h0 : -9223372036854775808 ≤ x) (h1 : x ≤ 9223372036854775807) : wrap64 x = x := by unfold wrap64; omega
theorem wrap_nat {i : Nat} (h : i < 4611686018427387904) : wrap64 ((i : Int) + 1) = ((i + 1 : Nat) : Int) := by unfold wrap64; omega
theorem ev_eq {α : Type} {g : Nat → Option α} {r : α} (h : ∀ k, g k = some r) : Ev g r := ⟨0, fun k _ => h k⟩
theorem ev_bind {α β : Type} {x : Option α} {f : Nat → α → Option β} {a : α} {r : β} (h : x = some a) (k : Ev (fun n => f n a) r) : Ev (fun n => x.bind (f n)) r := by subst h; exact k
theorem ev_pos {α : Type} {c : Prop} [Decidable c] {g f : Nat → Option α} {r : α} (h : c) (k : Ev g r) : Ev (fun n => if c then g n else f n) r := by simp only [if_pos h]; exact k
theorem ev_neg {α : Type} {c : Prop} [Decidable c] {g f : Nat → Option α} {r : α} (h : ¬ c) (k : Ev f r) : Ev (fun n => if c then g n else f n) r := by simp only [if_neg h]; exact k
theorem ev_from {α : Type} {g : Nat → Option α} {r : α} (K : Nat) (h : ∀ k, K ≤ k → g k = some r) : Ev g r := ⟨K, h⟩

/-! ### bytes of a text -/
theorem size_len (t : ByteArray) : t.data.toList.length = t.size := by rw [Array.length_toList]; rfl
theorem bt_get (t : ByteArray) (i : Nat) (h : i < t.data.toList.length) : bt t (i : Int) = ((t.data.toList[i]).toNat : Int) := by
  unfold bt
  rw [dif_pos (by rw [Int.toNat_natCast]; simpa using h)]
  simp only [Int.toNat_natCast]
  rfl
theorem ev_succ {α : Type} {g : Nat → Option α} {r : α} (h : Ev (fun k => g (k + 1)) r) : Ev g r := by
  obtain ⟨K, hK⟩ := h
  refine ev_from (K + 1) (fun k hk => ?_)
  obtain ⟨k, rfl⟩ : ∃ m, k = m + 1 := ⟨k - 1, by omega⟩
  exact hK k (by omega)
theorem ext_list (s : ByteArray) (a b : Nat) (hb : b ≤ s.size) : (s.extract a b).data.toList = (s.data.toList.take b).drop a := by
  rw [ByteArray.data_extract, Array.toList_extract, List.extract_eq_take_drop]
  rw [List.drop_take]
theorem take_list (s : ByteArray) (i : Nat) (h : i ≤ s.size) : (s.extract 0 i).data.toList = s.data.toList.take i := by rw [ext_list s 0 i h]; rfl
theorem drop_list (s : ByteArray) (i : Nat) : (s.extract i s.size).data.toList = s.data.toList.drop i := by
  rw [ext_list s i s.size (Nat.le_refl _), List.take_of_length_le (by rw [size_len]; exact Nat.le_refl _)]
theorem mk_data (s : ByteArray) : (⟨s.data.toList.toArray⟩ : ByteArray) = s := by cases s; simp
theorem of_list {s : ByteArray} {l : List UInt8} (h : s.data.toList = l) : s = ⟨l.toArray⟩ := by rw [← h, mk_data]
theorem list_of (l : List UInt8) : (⟨l.toArray⟩ : ByteArray).data.toList = l := by simp
theorem mk_size (l : List UInt8) : (⟨l.toArray⟩ : ByteArray).size = l.length := by rw [← size_len, list_of]
theorem mk_append (a b : List UInt8) : (⟨a.toArray⟩ : ByteArray) ++ ⟨b.toArray⟩ = ⟨(a ++ b).toArray⟩ := by
  apply of_list; rw [ByteArray.data_append, Array.toList_append, list_of, list_of]
theorem l1In_eq (n lo hi : Int) : spec_l1In.f n lo hi = some (decide (lo ≤ n ∧ n ≤ hi)) := by
  unfold spec_l1In.f
  by_cases h : n ≥ lo
  · rw [if_pos h]; congr 1; simp; intro _; omega
  · rw [if_neg h]; congr 1; simp; intro; omega
theorem within_eq (n lo hi : Int) : impl_within.f n lo hi = some (decide (lo ≤ n ∧ n ≤ hi)) := by
  unfold impl_within.f
  by_cases h : lo ≤ n
  · rw [if_pos h]; congr 1; simp; intro _; omega
  · rw [if_neg h]; congr 1; simp; intro; omega

/-! ### digit sums, and how many numbers below one have a sum -/
def ds (n : Nat) : Int := if h : n < 10 then (n : Int) else ((n % 10 : Nat) : Int) + ds (n / 10)
termination_by n
decreasing_by omega
theorem ds_small {n : Nat} (h : n < 10) : ds n = n := by rw [ds, dif_pos h]
theorem ds_step (n : Nat) : ds n = ((n % 10 : Nat) : Int) + ds (n / 10) := by
  by_cases h : n < 10
  · rw [ds_small h, Nat.div_eq_of_lt h, Nat.mod_eq_of_lt h, ds_small (by omega)]; simp
  · rw [ds, dif_neg h]
theorem ds_cons (a d : Nat) (h : d < 10) : ds (10 * a + d) = ds a + d := by
  rw [ds_step, show (10 * a + d) % 10 = d by omega, show (10 * a + d) / 10 = a by omega]; omega
theorem ds_nonneg (n : Nat) : 0 ≤ ds n := by
  induction n using Nat.strongRecOn with
  | _ n ih =>
    by_cases h : n < 10
    · rw [ds_small h]; omega
    · rw [ds_step]; have := ih (n / 10) (by omega); omega
theorem ds_pos {n : Nat} (h : 0 < n) : 0 < ds n := by
  induction n using Nat.strongRecOn with
  | _ n ih =>
    by_cases h1 : n < 10
    · rw [ds_small h1]; omega
    · rw [ds_step]; have := ih (n / 10) (by omega) (by omega); omega
theorem ds_le (k : Nat) : ∀ n, n < 10 ^ k → ds n ≤ 9 * k := by
  induction k with
  | zero => intro n h; have : n = 0 := by simpa using h
            subst this; rw [ds_small (by omega)]; omega
  | succ k ih =>
    intro n h
    rw [ds_step]
    have := ih (n / 10) (by rw [Nat.pow_succ] at h; omega)
    omega
theorem ds_split (k : Nat) : ∀ n, ds n = ds (n % 10 ^ k) + ds (n / 10 ^ k) := by
  induction k with
  | zero => intro n; simp [ds_small, Nat.mod_one]
  | succ k ih =>
    intro n
    rw [ds_step n, ih (n / 10), ds_step (n % 10 ^ (k + 1))]
    have h1 : n % 10 ^ (k + 1) % 10 = n % 10 := Nat.mod_mod_of_dvd n ⟨10 ^ k, by rw [Nat.pow_succ, Nat.mul_comm]⟩
    have h2 : n % 10 ^ (k + 1) / 10 = n / 10 % 10 ^ k := by rw [Nat.pow_succ, Nat.mul_comm, Nat.mod_mul_right_div_self]
    have h3 : n / 10 / 10 ^ k = n / 10 ^ (k + 1) := by rw [Nat.div_div_eq_div_mul, Nat.pow_succ, Nat.mul_comm]
    rw [h1, h2, h3]; omega
/-- how many texts of k digits have a sum -/
def W : Nat → Int → Int
  | 0, s => if s = 0 then 1 else 0
  | k + 1, s => W k s + W k (s - 1) + W k (s - 2) + W k (s - 3) + W k (s - 4) + W k (s - 5) + W k (s - 6) + W k (s - 7) + W k (s - 8) + W k (s - 9)
theorem W_neg (k : Nat) : ∀ s, s < 0 → W k s = 0 := by
  induction k with
  | zero => intro s h; simp only [W]; rw [if_neg (by omega)]
  | succ k ih => intro s h; simp only [W]; repeat rw [ih _ (by omega)]
                 rfl
theorem W_big (k : Nat) : ∀ s, 9 * (k : Int) < s → W k s = 0 := by
  induction k with
  | zero => intro s h; simp only [W]; rw [if_neg (by omega)]
  | succ k ih => intro s h; simp only [W]; repeat rw [ih _ (by omega)]
                 rfl
theorem W_nonneg (k : Nat) : ∀ s, 0 ≤ W k s := by
  induction k with
  | zero => intro s; simp only [W]; split <;> omega
  | succ k ih => intro s; simp only [W]; have h := fun x => ih (s - x); have h0 := ih s; have h1 := h 1; have h2 := h 2; have h3 := h 3; have h4 := h 4; have h5 := h 5; have h6 := h 6; have h7 := h 7; have h8 := h 8; have h9 := h 9; omega
theorem W_le (k : Nat) : ∀ s, W k s ≤ 10 ^ k := by
  induction k with
  | zero => intro s; simp only [W]; split <;> simp
  | succ k ih => intro s; simp only [W]; have h := fun x => ih (s - x); have h0 := ih s; have h1 := h 1; have h2 := h 2; have h3 := h 3; have h4 := h 4; have h5 := h 5; have h6 := h 6; have h7 := h 7; have h8 := h 8; have h9 := h 9; rw [Int.pow_succ]; omega
/-- how many numbers below n have a sum -/
def cnt (s : Int) : Nat → Int
  | 0 => 0
  | n + 1 => cnt s n + if ds n = s then 1 else 0
theorem cnt_mono (s : Int) {m n : Nat} (h : m ≤ n) : cnt s m ≤ cnt s n := by
  induction n with
  | zero => have : m = 0 := by omega
            subst this; exact Int.le_refl _
  | succ n ih =>
    by_cases e : m = n + 1
    · subst e; exact Int.le_refl _
    · have := ih (by omega); simp only [cnt]; split <;> omega
theorem cnt_nonneg (s : Int) (n : Nat) : 0 ≤ cnt s n := cnt_mono s (m := 0) (Nat.zero_le n)
theorem cnt_le (s : Int) (n : Nat) : cnt s n ≤ n := by
  induction n with
  | zero => simp [cnt]
  | succ n ih => simp only [cnt]; split <;> omega
theorem cnt_hit {s : Int} {n : Nat} (h : ds n = s) : cnt s (n + 1) = cnt s n + 1 := by simp only [cnt]; rw [if_pos h]
theorem cnt_miss {s : Int} {n : Nat} (h : ds n ≠ s) : cnt s (n + 1) = cnt s n := by simp only [cnt]; rw [if_neg h]; omega
theorem cnt_gap {s : Int} {m n : Nat} (h : m ≤ n) (hn : ∀ x, m ≤ x → x < n → ds x ≠ s) : cnt s n = cnt s m := by
  induction n with
  | zero => have : m = 0 := by omega
            subst this; rfl
  | succ n ih =>
    by_cases e : m = n + 1
    · subst e; rfl
    · rw [cnt_miss (hn n (by omega) (by omega)), ih (by omega) (fun x h1 h2 => hn x h1 (by omega))]
theorem cnt_inj {s : Int} {m n : Nat} (hm : ds m = s) (hn : ds n = s) (h : cnt s m = cnt s n) : m = n := by
  rcases Nat.lt_trichotomy m n with h1 | h1 | h1
  · have := cnt_mono s (m := m + 1) (n := n) h1; rw [cnt_hit hm] at this; omega
  · exact h1
  · have := cnt_mono s (m := n + 1) (n := m) h1; rw [cnt_hit hn] at this; omega
theorem cnt_block (k : Nat) : ∀ (s : Int) (a : Nat), cnt s (10 ^ k * (a + 1)) = cnt s (10 ^ k * a) + W k (s - ds a) := by
  induction k with
  | zero =>
    intro s a
    rw [Nat.pow_zero, Nat.one_mul, Nat.one_mul]
    simp only [W, cnt]
    by_cases h : ds a = s
    · rw [if_pos h, if_pos (by omega)]
    · rw [if_neg h, if_neg (by omega)]
  | succ k ih =>
    intro s a
    have st : ∀ d, d < 10 → cnt s (10 ^ k * (10 * a + d + 1)) = cnt s (10 ^ k * (10 * a + d)) + W k (s - ds a - d) := fun d hd => by
      rw [ih s (10 * a + d), ds_cons a d hd, show s - (ds a + (d : Int)) = s - ds a - d by omega]
    have e0 : 10 ^ (k + 1) * a = 10 ^ k * (10 * a + 0) := by rw [Nat.pow_succ, Nat.mul_assoc]; rfl
    have e1 : 10 ^ (k + 1) * (a + 1) = 10 ^ k * (10 * a + 9 + 1) := by rw [Nat.pow_succ, Nat.mul_assoc]; congr 1
    rw [e0, e1, st 9 (by omega), st 8 (by omega), st 7 (by omega), st 6 (by omega), st 5 (by omega), st 4 (by omega), st 3 (by omega), st 2 (by omega), st 1 (by omega), st 0 (by omega)]
    simp only [W]
    simp
    omega

/-! ### texts of digits: sums, numbers -/
def dv (b : UInt8) : Int := ((b.toNat : Int) - 48) % 256
theorem dv_range (b : UInt8) : 0 ≤ dv b ∧ dv b ≤ 255 := by unfold dv; omega
def lsum : List UInt8 → Int
  | [] => 0
  | b :: l => dv b + lsum l
theorem lsum_range (l : List UInt8) : 0 ≤ lsum l ∧ lsum l ≤ 255 * l.length := by
  induction l with
  | nil => simp [lsum]
  | cons b l ih => have := dv_range b; simp only [lsum, List.length_cons]; omega
theorem lsum_append (a b : List UInt8) : lsum (a ++ b) = lsum a + lsum b := by
  induction a with
  | nil => simp [lsum]
  | cons x a ih => simp only [List.cons_append, lsum, ih]; omega
def dch (d : Nat) : UInt8 := UInt8.ofNat (48 + d)
theorem dch_nat {d : Nat} (h : d < 10) : (dch d).toNat = 48 + d := by unfold dch; rw [UInt8.toNat_ofNat']; omega
theorem dv_dch {d : Nat} (h : d < 10) : dv (dch d) = d := by unfold dv; rw [dch_nat h]; omega
/-- k digits of n, zeros in front -/
def pad : Nat → Nat → List UInt8
  | 0, _ => []
  | k + 1, n => pad k (n / 10) ++ [dch (n % 10)]
theorem pad_length (k : Nat) : ∀ n, (pad k n).length = k := by
  induction k with
  | zero => intro n; rfl
  | succ k ih => intro n; simp [pad, ih]
theorem pad_zero (k : Nat) : pad k 0 = List.replicate k 48 := by
  induction k with
  | zero => rfl
  | succ k ih => rw [List.replicate_succ', ← ih]; rfl
theorem pad_take (k : Nat) : ∀ (j n : Nat), (pad (k + j) n).take k = pad k (n / 10 ^ j) := by
  intro j
  induction j with
  | zero => intro n; rw [Nat.add_zero, List.take_of_length_le (by rw [pad_length]; exact Nat.le_refl _)]; simp
  | succ j ih =>
    intro n
    rw [show k + (j + 1) = (k + j) + 1 by omega]
    simp only [pad]
    rw [List.take_append_of_le_length (by rw [pad_length]; omega), ih, Nat.div_div_eq_div_mul, Nat.pow_succ, Nat.mul_comm]
theorem pad_drop (j : Nat) : ∀ (k n : Nat), (pad (k + j) n).drop k = pad j (n % 10 ^ j) := by
  induction j with
  | zero => intro k n; rw [Nat.add_zero, List.drop_eq_nil_of_le (by rw [pad_length]; exact Nat.le_refl _)]; rfl
  | succ j ih =>
    intro k n
    rw [show k + (j + 1) = (k + j) + 1 by omega]
    simp only [pad]
    rw [List.drop_append_of_le_length (by rw [pad_length]; omega), ih]
    congr 1
    · congr 1
      rw [Nat.pow_succ, Nat.mul_comm, Nat.mod_mul_right_div_self]
    · congr 2
      rw [Nat.pow_succ, Nat.mul_comm]; exact (Nat.mod_mul_right_mod n 10 (10 ^ j)).symm
theorem pad_get (k n i : Nat) (h : i < (pad k n).length) : (pad k n)[i] = dch (n / 10 ^ (k - 1 - i) % 10) := by
  induction k generalizing n i with
  | zero => simp [pad] at h
  | succ k ih =>
    rw [pad_length] at h
    simp only [pad]
    by_cases c : i < k
    · rw [List.getElem_append_left (by rw [pad_length]; exact c), ih _ _ (by rw [pad_length]; exact c), Nat.div_div_eq_div_mul, show k + 1 - 1 - i = (k - 1 - i) + 1 by omega, Nat.pow_succ, Nat.mul_comm]
    · have : i = k := by omega
      subst this
      rw [List.getElem_append_right (by rw [pad_length]; exact Nat.le_refl _)]
      simp [pad_length]
theorem lsum_pad (k : Nat) : ∀ n, n < 10 ^ k → lsum (pad k n) = ds n := by
  induction k with
  | zero => intro n h; have : n = 0 := by simpa using h
            subst this; rw [ds_small (by omega)]; rfl
  | succ k ih =>
    intro n h
    simp only [pad]
    rw [lsum_append, ih _ (by rw [Nat.pow_succ] at h; omega), ds_step n]
    simp only [lsum, dv_dch (Nat.mod_lt n (by omega : 0 < 10))]; omega
def lnum (a : Int) : List UInt8 → Int
  | [] => a
  | b :: l => lnum (10 * a + dv b) l
theorem lnum_append (l m : List UInt8) : ∀ a, lnum a (l ++ m) = lnum (lnum a l) m := by
  induction l with
  | nil => intro a; rfl
  | cons b l ih => intro a; simp only [List.cons_append, lnum, ih]
theorem lnum_pad (k : Nat) : ∀ n, n < 10 ^ k → lnum 0 (pad k n) = n := by
  induction k with
  | zero => intro n h; have : n = 0 := by simpa using h
            subst this; rfl
  | succ k ih =>
    intro n h
    simp only [pad]
    rw [lnum_append, ih _ (by rw [Nat.pow_succ] at h; omega)]
    simp only [lnum, dv_dch (Nat.mod_lt n (by omega : 0 < 10))]; omega
theorem dec_pad (n : Nat) : Lib.decDigits n = pad (Lib.nDigits n) n := by
  induction n using Nat.strongRecOn with
  | _ n ih =>
    by_cases h : n < 10
    · rw [Lib.decDigits, dif_pos h, Lib.nDigits_small h]; simp [pad, dch, Nat.mod_eq_of_lt h]
    · rw [Lib.decDigits, dif_neg h, Lib.nDigits_big h, ih _ (by omega)]; rfl
theorem pad_front (j k n : Nat) (h : n < 10 ^ k) : pad (j + k) n = List.replicate j 48 ++ pad k n := by
  induction k generalizing n with
  | zero => have : n = 0 := by simpa using h
            subst this; simp [pad, pad_zero]
  | succ k ih =>
    rw [show j + (k + 1) = (j + k) + 1 by omega]
    simp only [pad]
    rw [ih _ (by rw [Nat.pow_succ] at h; omega), List.append_assoc]

/-! ### lucky tickets, counted -/
def lky (h m : Nat) : Bool := decide (ds (m / 10 ^ h) = ds (m % 10 ^ h))
def cntL (h : Nat) : Nat → Int
  | 0 => 0
  | n + 1 => cntL h n + if lky h n = true then 1 else 0
theorem cntL_mono (h : Nat) {m n : Nat} (hm : m ≤ n) : cntL h m ≤ cntL h n := by
  induction n with
  | zero => obtain rfl : m = 0 := by omega
            exact Int.le_refl _
  | succ n ih =>
    by_cases e : m = n + 1
    · subst e; exact Int.le_refl _
    · have := ih (by omega); simp only [cntL]; split <;> omega
theorem cntL_nonneg (h n : Nat) : 0 ≤ cntL h n := cntL_mono h (m := 0) (Nat.zero_le n)
theorem cntL_le (h n : Nat) : cntL h n ≤ n := by
  induction n with
  | zero => simp [cntL]
  | succ n ih => simp only [cntL]; split <;> omega
theorem cntL_hit {h n : Nat} (e : lky h n = true) : cntL h (n + 1) = cntL h n + 1 := by simp only [cntL]; rw [if_pos e]
theorem cntL_miss {h n : Nat} (e : ¬ lky h n = true) : cntL h (n + 1) = cntL h n := by simp only [cntL]; rw [if_neg e]; omega
theorem cntL_inj {h m n : Nat} (hm : lky h m = true) (hn : lky h n = true) (e : cntL h m = cntL h n) : m = n := by
  rcases Nat.lt_trichotomy m n with h1 | h1 | h1
  · have := cntL_mono h (m := m + 1) (n := n) h1; rw [cntL_hit hm] at this; omega
  · exact h1
  · have := cntL_mono h (m := n + 1) (n := m) h1; rw [cntL_hit hn] at this; omega
theorem cntL_lt_of {h m n : Nat} (e : cntL h m < cntL h n) : m < n := by
  rcases Nat.lt_or_ge m n with c | c
  · exact c
  · have := cntL_mono h c; omega
/-- the numbers with so many digits more, before which a sum stands -/
def DD : Nat → Nat → Int → Int
  | 0, h, x => W h x
  | k + 1, h, x => DD k h x + DD k h (x + 1) + DD k h (x + 2) + DD k h (x + 3) + DD k h (x + 4) + DD k h (x + 5) + DD k h (x + 6) + DD k h (x + 7) + DD k h (x + 8) + DD k h (x + 9)
/-- how many lucky ones begin with j digits -/
def CL (h j b : Nat) : Int := if h ≤ j then W (2 * h - j) (ds (b / 10 ^ (j - h)) - ds (b % 10 ^ (j - h))) else DD (h - j) h (ds b)
theorem p10n (k : Nat) : 0 < 10 ^ k := Nat.pow_pos (by decide)
theorem div_cons (b d q : Nat) (hd : d < 10) : (10 * b + d) / 10 ^ (q + 1) = b / 10 ^ q ∧ (10 * b + d) % 10 ^ (q + 1) = 10 * (b % 10 ^ q) + d := by
  constructor
  · rw [Nat.pow_succ, Nat.mul_comm (10 ^ q), ← Nat.div_div_eq_div_mul, show (10 * b + d) / 10 = b by omega]
  · rw [Nat.pow_succ, Nat.mul_comm (10 ^ q), Nat.mod_mul, show (10 * b + d) % 10 = d by omega, show (10 * b + d) / 10 = b by omega]; omega
theorem CL_step (h j b r : Nat) (hj : j + (r + 1) = 2 * h) : CL h j b = CL h (j + 1) (10 * b + 0) + CL h (j + 1) (10 * b + 1) + CL h (j + 1) (10 * b + 2) + CL h (j + 1) (10 * b + 3) + CL h (j + 1) (10 * b + 4) + CL h (j + 1) (10 * b + 5) + CL h (j + 1) (10 * b + 6) + CL h (j + 1) (10 * b + 7) + CL h (j + 1) (10 * b + 8) + CL h (j + 1) (10 * b + 9) := by
  by_cases c : h ≤ j
  · have e : ∀ d : Nat, d < 10 → CL h (j + 1) (10 * b + d) = W r (ds (b / 10 ^ (j - h)) - ds (b % 10 ^ (j - h)) - d) := fun d hd => by
      have hh := div_cons b d (j - h) hd
      unfold CL
      rw [if_pos (by omega), show j + 1 - h = (j - h) + 1 by omega, hh.1, hh.2, ds_cons _ d hd, show 2 * h - (j + 1) = r by omega]
      congr 1; omega
    rw [e 0 (by decide), e 1 (by decide), e 2 (by decide), e 3 (by decide), e 4 (by decide), e 5 (by decide), e 6 (by decide), e 7 (by decide), e 8 (by decide), e 9 (by decide)]
    unfold CL
    rw [if_pos c, show 2 * h - j = r + 1 by omega]
    simp only [W]
    simp
  · have e : ∀ d : Nat, d < 10 → CL h (j + 1) (10 * b + d) = DD (h - (j + 1)) h (ds b + d) := fun d hd => by
      unfold CL
      by_cases c2 : h ≤ j + 1
      · obtain rfl : h = j + 1 := by omega
        rw [if_pos c2, Nat.sub_self, Nat.pow_zero, Nat.div_one, Nat.mod_one, ds_cons b d hd, ds_small (by decide : 0 < 10)]
        simp only [DD]
        rw [show 2 * (j + 1) - (j + 1) = j + 1 by omega]
        congr 1; omega
      · rw [if_neg c2, ds_cons b d hd]
    rw [e 0 (by decide), e 1 (by decide), e 2 (by decide), e 3 (by decide), e 4 (by decide), e 5 (by decide), e 6 (by decide), e 7 (by decide), e 8 (by decide), e 9 (by decide)]
    unfold CL
    rw [if_neg c, show h - j = (h - (j + 1)) + 1 by omega]
    simp only [DD]
    simp
theorem cntL_block (h : Nat) : ∀ (r j b : Nat), j + r = 2 * h → cntL h (10 ^ r * (b + 1)) = cntL h (10 ^ r * b) + CL h j b := by
  intro r
  induction r with
  | zero =>
    intro j b hj
    rw [Nat.pow_zero, Nat.one_mul, Nat.one_mul]
    simp only [cntL]
    have e2 : CL h j b = if ds (b / 10 ^ h) = ds (b % 10 ^ h) then 1 else 0 := by
      unfold CL
      rw [if_pos (show h ≤ j by omega), show 2 * h - j = 0 by omega, show j - h = h by omega]
      simp only [W]
      by_cases e : ds (b / 10 ^ h) = ds (b % 10 ^ h)
      · rw [if_pos e, if_pos (by omega)]
      · rw [if_neg e, if_neg (by omega)]
    rw [e2]
    unfold lky
    simp only [decide_eq_true_eq]
  | succ r ih =>
    intro j b hj
    have st : ∀ d, cntL h (10 ^ r * (10 * b + d + 1)) = cntL h (10 ^ r * (10 * b + d)) + CL h (j + 1) (10 * b + d) := fun d => ih (j + 1) (10 * b + d) (by omega)
    have e0 : 10 ^ (r + 1) * b = 10 ^ r * (10 * b + 0) := by rw [Nat.pow_succ, Nat.mul_assoc]; rfl
    have e1 : 10 ^ (r + 1) * (b + 1) = 10 ^ r * (10 * b + 9 + 1) := by rw [Nat.pow_succ, Nat.mul_assoc]; congr 1
    rw [e0, e1, st 9, st 8, st 7, st 6, st 5, st 4, st 3, st 2, st 1, st 0, CL_step h j b r (by omega)]
    omega
theorem W_sym (k : Nat) : ∀ s, W k s = W k (9 * k - s) := by
  induction k with
  | zero => intro s; simp only [W]; by_cases c : s = 0
            · rw [if_pos c, if_pos (by omega)]
            · rw [if_neg c, if_neg (by omega)]
  | succ k ih =>
    intro s
    simp only [W]
    rw [ih s, ih (s - 1), ih (s - 2), ih (s - 3), ih (s - 4), ih (s - 5), ih (s - 6), ih (s - 7), ih (s - 8), ih (s - 9)]
    have e : ∀ a b : Int, a = b → W k a = W k b := fun a b h => by rw [h]
    rw [e (9 * (k : Int) - s) (9 * ((k + 1 : Nat) : Int) - s - 9) (by omega), e (9 * (k : Int) - (s - 1)) (9 * ((k + 1 : Nat) : Int) - s - 8) (by omega), e (9 * (k : Int) - (s - 2)) (9 * ((k + 1 : Nat) : Int) - s - 7) (by omega), e (9 * (k : Int) - (s - 3)) (9 * ((k + 1 : Nat) : Int) - s - 6) (by omega), e (9 * (k : Int) - (s - 4)) (9 * ((k + 1 : Nat) : Int) - s - 5) (by omega), e (9 * (k : Int) - (s - 5)) (9 * ((k + 1 : Nat) : Int) - s - 4) (by omega), e (9 * (k : Int) - (s - 6)) (9 * ((k + 1 : Nat) : Int) - s - 3) (by omega), e (9 * (k : Int) - (s - 7)) (9 * ((k + 1 : Nat) : Int) - s - 2) (by omega), e (9 * (k : Int) - (s - 8)) (9 * ((k + 1 : Nat) : Int) - s - 1) (by omega), e (9 * (k : Int) - (s - 9)) (9 * ((k + 1 : Nat) : Int) - s) (by omega)]
    omega
theorem W_zero (k : Nat) : W k 0 = 1 := by
  induction k with
  | zero => rfl
  | succ k ih => simp only [W]; rw [ih, W_neg k (0 - 1) (by decide), W_neg k (0 - 2) (by decide), W_neg k (0 - 3) (by decide), W_neg k (0 - 4) (by decide), W_neg k (0 - 5) (by decide), W_neg k (0 - 6) (by decide), W_neg k (0 - 7) (by decide), W_neg k (0 - 8) (by decide), W_neg k (0 - 9) (by decide)]; rfl
/-! sums -/
def sm (f : Nat → Int) : Nat → Int
  | 0 => 0
  | n + 1 => sm f n + f n
theorem sm_congr {f g : Nat → Int} {n : Nat} (h : ∀ i, i < n → f i = g i) : sm f n = sm g n := by
  induction n with
  | zero => rfl
  | succ n ih => rw [sm, sm, ih (fun i hi => h i (by omega)), h n (by omega)]
theorem sm_zero {f : Nat → Int} {n : Nat} (h : ∀ i, i < n → f i = 0) : sm f n = 0 := by
  induction n with
  | zero => rfl
  | succ n ih => rw [sm, ih (fun i hi => h i (by omega)), h n (by omega)]; rfl
theorem sm_add (f g : Nat → Int) (n : Nat) : sm (fun i => f i + g i) n = sm f n + sm g n := by
  induction n with
  | zero => rfl
  | succ n ih => simp only [sm]; rw [ih]; omega
theorem sm_shift (f : Nat → Int) (d n : Nat) : sm f (d + n) = sm f d + sm (fun i => f (d + i)) n := by
  induction n with
  | zero => rw [Nat.add_zero, sm]; omega
  | succ n ih => rw [← Nat.add_assoc, sm, ih, sm]; omega
theorem sm_more {f : Nat → Int} {n m : Nat} (h : n ≤ m) (hz : ∀ i, n ≤ i → f i = 0) : sm f m = sm f n := by
  obtain ⟨e, rfl⟩ : ∃ e, m = n + e := ⟨m - n, by omega⟩
  rw [sm_shift, sm_zero (f := fun i => f (n + i)) (fun i _ => hz (n + i) (by omega))]; omega
def AA (k h : Nat) (x : Int) (N : Nat) : Int := sm (fun s => W k s * W h ((s : Int) + x)) N
theorem AA_cut (k h : Nat) (x : Int) (N : Nat) (hN : 9 * k + 1 ≤ N) : AA k h x N = AA k h x (9 * k + 1) :=
  sm_more hN (fun i hi => by rw [W_big k i (by omega)]; exact Int.zero_mul _)
theorem AA_shift (k h : Nat) (x : Int) (d N : Nat) : sm (fun s => W k ((s : Int) - d) * W h ((s : Int) + x)) (d + N) = AA k h (x + d) N := by
  rw [sm_shift, sm_zero (fun i hi => by rw [W_neg k _ (by omega)]; exact Int.zero_mul _)]
  unfold AA
  rw [Int.zero_add]
  refine sm_congr (fun i _ => ?_)
  rw [show ((d + i : Nat) : Int) - d = (i : Int) by omega, show ((d + i : Nat) : Int) + x = (i : Int) + (x + d) by omega]
theorem AA_succ (k h : Nat) (x : Int) : AA (k + 1) h x (9 * (k + 1) + 1) = AA k h x (9 * k + 1) + AA k h (x + 1) (9 * k + 1) + AA k h (x + 2) (9 * k + 1) + AA k h (x + 3) (9 * k + 1) + AA k h (x + 4) (9 * k + 1) + AA k h (x + 5) (9 * k + 1) + AA k h (x + 6) (9 * k + 1) + AA k h (x + 7) (9 * k + 1) + AA k h (x + 8) (9 * k + 1) + AA k h (x + 9) (9 * k + 1) := by
  have key : ∀ d : Nat, d ≤ 9 → sm (fun s => W k ((s : Int) - d) * W h ((s : Int) + x)) (9 * (k + 1) + 1) = AA k h (x + d) (9 * k + 1) := fun d hd => by
    rw [show 9 * (k + 1) + 1 = d + (9 * (k + 1) + 1 - d) by omega, AA_shift, AA_cut _ _ _ _ (by omega)]
  have k0 := key 0 (by decide)
  have k1 := key 1 (by decide)
  have k2 := key 2 (by decide)
  have k3 := key 3 (by decide)
  have k4 := key 4 (by decide)
  have k5 := key 5 (by decide)
  have k6 := key 6 (by decide)
  have k7 := key 7 (by decide)
  have k8 := key 8 (by decide)
  have k9 := key 9 (by decide)
  simp only [Int.natCast_zero, Int.sub_zero, Int.add_zero] at k0
  rw [show ((1 : Nat) : Int) = 1 from rfl] at k1
  rw [show ((2 : Nat) : Int) = 2 from rfl] at k2
  rw [show ((3 : Nat) : Int) = 3 from rfl] at k3
  rw [show ((4 : Nat) : Int) = 4 from rfl] at k4
  rw [show ((5 : Nat) : Int) = 5 from rfl] at k5
  rw [show ((6 : Nat) : Int) = 6 from rfl] at k6
  rw [show ((7 : Nat) : Int) = 7 from rfl] at k7
  rw [show ((8 : Nat) : Int) = 8 from rfl] at k8
  rw [show ((9 : Nat) : Int) = 9 from rfl] at k9
  rw [← k0, ← k1, ← k2, ← k3, ← k4, ← k5, ← k6, ← k7, ← k8, ← k9, ← sm_add, ← sm_add, ← sm_add, ← sm_add, ← sm_add, ← sm_add, ← sm_add, ← sm_add, ← sm_add]
  unfold AA
  refine sm_congr (fun i _ => ?_)
  simp only [W, Int.add_mul]
theorem DD_sum (h : Nat) : ∀ (k : Nat) (x : Int), DD k h x = AA k h x (9 * k + 1) := by
  intro k
  induction k with
  | zero => intro x; simp [DD, AA, sm, W]
  | succ k ih => intro x; rw [AA_succ]; simp only [DD]; rw [ih, ih, ih, ih, ih, ih, ih, ih, ih, ih]
theorem CL_all (h : Nat) (hh : 0 < h) : CL h 0 0 = AA h h 0 (9 * h + 1) := by
  unfold CL
  rw [if_neg (by omega), ds_small (by decide : 0 < 10), Nat.sub_zero, DD_sum]; rfl
theorem cntL_all (h : Nat) (hh : 0 < h) : cntL h (10 ^ (2 * h)) = AA h h 0 (9 * h + 1) := by
  have := cntL_block h (2 * h) 0 0 (by omega)
  rw [CL_all h hh, Nat.mul_zero, Nat.zero_add, Nat.mul_one] at this
  simp only [cntL] at this
  omega
theorem CL_nonneg (h j b : Nat) (hj : j ≤ 2 * h) : 0 ≤ CL h j b := by
  have h1 := cntL_block h (2 * h - j) j b (by omega)
  have h2 := cntL_mono h (Nat.mul_le_mul_left (10 ^ (2 * h - j)) (Nat.le_succ b))
  rw [show b.succ = b + 1 from rfl] at h2
  omega
theorem CL_self (h m : Nat) : CL h (2 * h) m = if lky h m = true then 1 else 0 := by
  have := cntL_block h 0 (2 * h) m (by omega)
  rw [Nat.pow_zero, Nat.one_mul, Nat.one_mul] at this
  simp only [cntL] at this
  omega

/-! ### lists told by a function -/
def tab (n : Nat) (f : Nat → Int) : List Int := (List.range n).map f
theorem tab_len (n : Nat) (f : Nat → Int) : (tab n f).length = n := by simp [tab]
theorem tab_rd {n : Nat} {f : Nat → Int} {i : Nat} (h : i < n) : rd (tab n f) (i : Int) = f i := by
  unfold rd tab
  rw [Int.toNat_natCast, List.getD_eq_getElem?_getD, List.getElem?_eq_getElem (by simpa using h)]
  simp
theorem tab_set (n : Nat) (f : Nat → Int) (j : Nat) (v : Int) : (tab n f).set j v = tab n (fun i => if i = j then v else f i) := by
  unfold tab
  apply List.ext_getElem
  · simp
  · intro i h1 h2
    rw [List.getElem_set]
    simp only [List.getElem_map, List.getElem_range]
    by_cases c : j = i
    · rw [if_pos c, if_pos c.symm]
    · rw [if_neg c, if_neg (fun e => c e.symm)]
theorem tab_zero (n : Nat) : List.replicate n (0 : Int) = tab n (fun _ => 0) := by
  unfold tab
  apply List.ext_getElem <;> simp
theorem tab_congr {n : Nat} {f g : Nat → Int} (h : ∀ i, i < n → f i = g i) : tab n f = tab n g := by
  unfold tab
  apply List.ext_getElem
  · simp
  · intro i h1 h2
    simp only [List.getElem_map, List.getElem_range]
    exact h i (by simpa using h1)

/-! ### the table of ways -/
theorem p10 (k : Nat) : (10 : Int) ^ k = ((10 ^ k : Nat) : Int) := by rw [Int.natCast_pow]; rfl
theorem p10_le {a b : Nat} (h : a ≤ b) : (10 : Int) ^ a ≤ 10 ^ b := by rw [p10, p10]; exact Int.ofNat_le.mpr (Nat.pow_le_pow_right (by omega) h)
def wl (k : Nat) : List Int := tab (9 * k + 1) (fun i => W k i)
/-- what counts s, s + 1, .. bring to count i, digits below m alone -/
def T (k : Nat) (s i : Int) : Nat → Int
  | 0 => 0
  | m + 1 => T k s i m + if s ≤ i - m then W k (i - m) else 0
theorem T_nonneg (k : Nat) (s i : Int) (m : Nat) : 0 ≤ T k s i m := by
  induction m with
  | zero => exact Int.le_refl _
  | succ m ih => simp only [T]; have := W_nonneg k (i - m); split <;> omega
theorem T_step (k : Nat) (s i : Int) (m : Nat) : T k s i m = T k (s + 1) i m + if s ≤ i ∧ i < s + m then W k s else 0 := by
  induction m with
  | zero => simp only [T]; rw [if_neg (by omega)]; try rfl
  | succ m ih =>
    simp only [T]
    rw [ih]
    by_cases h : i - m = s
    · rw [h, if_pos (Int.le_refl s), if_neg (show ¬ (s + 1 ≤ s) by omega), if_neg (show ¬ (s ≤ i ∧ i < s + m) by omega), if_pos (show s ≤ i ∧ i < s + ((m + 1 : Nat) : Int) by omega)]; try omega
    · by_cases c : s ≤ i ∧ i < s + m
      · rw [if_pos c, if_pos (show s ≤ i ∧ i < s + ((m + 1 : Nat) : Int) by omega)]
        by_cases d : s ≤ i - m
        · rw [if_pos d, if_pos (by omega)]; omega
        · rw [if_neg d, if_neg (by omega)]; omega
      · rw [if_neg c, if_neg (show ¬ (s ≤ i ∧ i < s + ((m + 1 : Nat) : Int)) by omega)]
        by_cases d : s ≤ i - m
        · rw [if_pos d, if_pos (by omega)]; omega
        · rw [if_neg d, if_neg (by omega)]; try omega
theorem T_end (k : Nat) (s i : Int) (m : Nat) (h : 9 * (k : Int) < s) : T k s i m = 0 := by
  induction m with
  | zero => rfl
  | succ m ih =>
    simp only [T]
    rw [ih]
    by_cases c : s ≤ i - m
    · rw [if_pos c, W_big k _ (by omega)]; try rfl
    · rw [if_neg c]; try rfl
theorem T_all (k : Nat) (i : Int) : T k 0 i 10 = W (k + 1) i := by
  have e : ∀ x : Int, (if (0 : Int) ≤ x then W k x else 0) = W k x := fun x => by
    by_cases c : 0 ≤ x
    · rw [if_pos c]
    · rw [if_neg c, W_neg k x (by omega)]
  simp only [T, e, W]
  simp
theorem iways_l2 (N s : Nat) (n : Int) (x9 x10 : Int) (x16 : List Int) (x17 x18 : Int) (hN : s + 10 ≤ N) (hb : N ≤ 1000000) (hn : 0 ≤ n) (hn2 : n ≤ 100000000000000) (r : List Int) :
    ∀ (e d : Nat) (g : Nat → Int), d + e = 10 → (∀ i, s + d ≤ i → 0 ≤ g i ∧ g i ≤ 100000000000000) →
      Ev (fun k => impl_ways.l1 k (tab N (fun i => if s + d ≤ i ∧ i < s + 10 then g i + n else g i)) x9 x10 x16 x17 (wrap64 (x18 + 1))) r →
      Ev (fun k => impl_ways.l2 k (tab N g) (s : Int) n x9 x10 x16 x17 x18 (d : Int)) r := by
  intro e
  induction e with
  | zero =>
    intro d g hd hg h
    refine ev_succ ?_
    simp only [impl_ways.l2]
    refine ev_neg (by omega) ?_
    have : (tab N fun i => if s + d ≤ i ∧ i < s + 10 then g i + n else g i) = tab N g := tab_congr (fun i _ => if_neg (by omega))
    rw [this] at h
    exact h
  | succ e ih =>
    intro d g hd hg h
    refine ev_succ ?_
    simp only [impl_ways.l2]
    have hw : wrap64 ((s : Int) + d) = ((s + d : Nat) : Int) := by rw [wrap_of (by omega) (by omega)]; omega
    rw [hw, tab_len, tab_rd (by omega), Int.toNat_natCast, tab_set, wrap_nat (i := d) (by omega)]
    refine ev_pos (by omega) (ev_pos (by omega) (ev_pos (by omega) ?_))
    have hg1 := hg (s + d) (Nat.le_refl _)
    rw [wrap_of (x := g (s + d) + n) (by omega) (by omega)]
    refine ih (d + 1) (fun i => if i = s + d then g (s + d) + n else g i) (by omega) (fun i hi => ?_) ?_
    · rw [if_neg (by omega)]; exact hg i (by omega)
    · have : (tab N fun i => if s + (d + 1) ≤ i ∧ i < s + 10 then (if i = s + d then g (s + d) + n else g i) + n else (if i = s + d then g (s + d) + n else g i)) = tab N fun i => if s + d ≤ i ∧ i < s + 10 then g i + n else g i := by
        refine tab_congr (fun i _ => ?_)
        by_cases c : i = s + d
        · subst c
          rw [if_neg (by omega), if_pos rfl, if_pos (by omega)]
        · rw [if_neg c]
          by_cases c2 : s + d ≤ i ∧ i < s + 10
          · rw [if_pos (by omega), if_pos c2]
          · rw [if_neg (by omega), if_neg c2]
      rw [this]
      exact h
theorem iways_l1 (q : Nat) (hq : q ≤ 13) (x9 x10 : Int) (r : List Int) (h : Ev (fun k => impl_ways.l0 k (wl (q + 1)) x9 (wrap64 (x10 + 1))) r) :
    ∀ (e s : Nat) (g : Nat → Int), s + e = 9 * q + 1 → (∀ i, 0 ≤ g i ∧ g i + T q s i 10 = W (q + 1) i) →
      Ev (fun k => impl_ways.l1 k (tab (9 * q + 10) g) x9 x10 (wl q) ((9 * q + 1 : Nat) : Int) (s : Int)) r := by
  have hW : ∀ i, W (q + 1) i ≤ 100000000000000 := fun i => by
    have h1 := W_le (q + 1) i
    have h2 : (10 : Int) ^ (q + 1) ≤ 10 ^ 14 := p10_le (by omega)
    omega
  intro e
  induction e with
  | zero =>
    intro s g hs hg
    refine ev_succ ?_
    simp only [impl_ways.l1]
    refine ev_neg (by omega) ?_
    have : tab (9 * q + 10) g = wl (q + 1) := by
      unfold wl
      rw [show 9 * (q + 1) + 1 = 9 * q + 10 by omega]
      refine tab_congr (fun i _ => ?_)
      have := (hg i).2
      rw [T_end q s i 10 (by omega)] at this
      omega
    rw [this]
    exact h
  | succ e ih =>
    intro s g hs hg
    refine ev_succ ?_
    simp only [impl_ways.l1]
    have hl : (wl q).length = 9 * q + 1 := tab_len _ _
    have hr : rd (wl q) (s : Int) = W q s := tab_rd (by omega)
    rw [hl, hr]
    refine ev_pos (by omega) (ev_pos (by omega) (ev_pos (by omega) ?_))
    have hn := W_nonneg q s
    have hn2 : W q s ≤ 100000000000000 := by
      have h1 := W_le q s
      have h2 : (10 : Int) ^ q ≤ 10 ^ 14 := p10_le (by omega)
      omega
    have hT : ∀ i : Nat, 0 ≤ T q s i 10 := fun i => T_nonneg q s i 10
    have key := iways_l2 (9 * q + 10) s (W q s) x9 x10 (wl q) ((9 * q + 1 : Nat) : Int) (s : Int) (by omega) (by omega) hn hn2 r 10 0 g (by omega) (fun i _ => ⟨(hg i).1, by have := (hg i).2; have := hT i; have := hW i; omega⟩)
    refine key ?_
    have hw : wrap64 ((s : Int) + 1) = ((s + 1 : Nat) : Int) := wrap_nat (by omega)
    rw [hw]
    refine ih (s + 1) _ (by omega) (fun i => ?_)
    have h1 := hg i
    have h2 := T_step q s i 10
    have h3 : ((s + 1 : Nat) : Int) = (s : Int) + 1 := by omega
    rw [h3]
    by_cases c : s + 0 ≤ i ∧ i < s + 10
    · rw [if_pos c]
      rw [if_pos (by omega)] at h2
      omega
    · rw [if_neg c]
      rw [if_neg (by omega)] at h2
      omega
theorem iways_l0 (p : Nat) (hp : p ≤ 13) : ∀ (e j : Nat), j + e = p → Ev (fun k => impl_ways.l0 k (wl j) (p : Int) (j : Int)) (wl p) := by
  intro e
  induction e with
  | zero =>
    intro j hj
    refine ev_succ ?_
    simp only [impl_ways.l0]
    have : j = p := by omega
    subst this
    exact ev_neg (by omega) (ev_eq fun _ => rfl)
  | succ e ih =>
    intro j hj
    refine ev_succ ?_
    simp only [impl_ways.l0]
    have hl : (wl j).length = 9 * j + 1 := tab_len _ _
    have hw : wrap64 (((9 * j + 1 : Nat) : Int) + 9) = ((9 * j + 10 : Nat) : Int) := by rw [wrap_of (by omega) (by omega)]; omega
    rw [hl, hw, Int.toNat_natCast, tab_zero]
    refine ev_pos (by omega) (ev_pos (by omega) (ev_pos (by omega) ?_))
    refine iways_l1 j (by omega) (p : Int) (j : Int) (wl p) ?_ (9 * j + 1) 0 (fun _ => 0) (by omega) (fun i => ⟨Int.le_refl 0, ?_⟩)
    · rw [wrap_nat (i := j) (by omega)]
      exact ih (j + 1) (by omega)
    · have := T_all j i
      simp only [Int.zero_add]
      exact this
theorem iways_ev (p : Nat) (hp : p ≤ 13) : Ev (fun k => impl_ways.f k (p : Int)) (wl p) := by
  unfold impl_ways.f
  exact iways_l0 p hp p 0 (by omega)

theorem sways_l2 (N s : Nat) (n : Int) (x0 : Int) (x16 : List Int) (x17 x18 : Int) (hN : s + 10 ≤ N) (hb : N ≤ 1000000) (hn : 0 ≤ n) (hn2 : n ≤ 100000000000000) (r : List Int) :
    ∀ (e d : Nat) (g : Nat → Int), d + e = 10 → (∀ i, s + d ≤ i → 0 ≤ g i ∧ g i ≤ 100000000000000) →
      Ev (fun k => spec_tkWays.l1 k x0 (tab N (fun i => if s + d ≤ i ∧ i < s + 10 then g i + n else g i)) x16 x17 (wrap64 (x18 + 1))) r →
      Ev (fun k => spec_tkWays.l2 k x0 (tab N g) (s : Int) n (d : Int) x16 x17 x18) r := by
  intro e
  induction e with
  | zero =>
    intro d g hd hg h
    refine ev_succ ?_
    simp only [spec_tkWays.l2]
    refine ev_neg (by omega) ?_
    have : (tab N fun i => if s + d ≤ i ∧ i < s + 10 then g i + n else g i) = tab N g := tab_congr (fun i _ => if_neg (by omega))
    rw [this] at h
    exact h
  | succ e ih =>
    intro d g hd hg h
    refine ev_succ ?_
    simp only [spec_tkWays.l2]
    have hw : wrap64 ((s : Int) + d) = ((s + d : Nat) : Int) := by rw [wrap_of (by omega) (by omega)]; omega
    rw [hw, tab_len, tab_rd (by omega), Int.toNat_natCast, tab_set, wrap_nat (i := d) (by omega)]
    refine ev_pos (by omega) (ev_pos (by omega) (ev_pos (by omega) ?_))
    have hg1 := hg (s + d) (Nat.le_refl _)
    rw [wrap_of (x := g (s + d) + n) (by omega) (by omega)]
    refine ih (d + 1) (fun i => if i = s + d then g (s + d) + n else g i) (by omega) (fun i hi => ?_) ?_
    · rw [if_neg (by omega)]; exact hg i (by omega)
    · have : (tab N fun i => if s + (d + 1) ≤ i ∧ i < s + 10 then (if i = s + d then g (s + d) + n else g i) + n else (if i = s + d then g (s + d) + n else g i)) = tab N fun i => if s + d ≤ i ∧ i < s + 10 then g i + n else g i := by
        refine tab_congr (fun i _ => ?_)
        by_cases c : i = s + d
        · subst c
          rw [if_neg (by omega), if_pos rfl, if_pos (by omega)]
        · rw [if_neg c]
          by_cases c2 : s + d ≤ i ∧ i < s + 10
          · rw [if_pos (by omega), if_pos c2]
          · rw [if_neg (by omega), if_neg c2]
      rw [this]
      exact h
theorem sways_l1 (q : Nat) (hq : q ≤ 13) (x0 : Int) (r : List Int) (h : Ev (fun k => spec_tkWays.l0 k (wrap64 (x0 - 1)) (wl (q + 1))) r) :
    ∀ (e s : Nat) (g : Nat → Int), s + e = 9 * q + 1 → (∀ i, 0 ≤ g i ∧ g i + T q s i 10 = W (q + 1) i) →
      Ev (fun k => spec_tkWays.l1 k x0 (tab (9 * q + 10) g) (wl q) ((9 * q + 1 : Nat) : Int) (s : Int)) r := by
  have hW : ∀ i, W (q + 1) i ≤ 100000000000000 := fun i => by
    have h1 := W_le (q + 1) i
    have h2 : (10 : Int) ^ (q + 1) ≤ 10 ^ 14 := p10_le (by omega)
    omega
  intro e
  induction e with
  | zero =>
    intro s g hs hg
    refine ev_succ ?_
    simp only [spec_tkWays.l1]
    refine ev_neg (by omega) ?_
    have : tab (9 * q + 10) g = wl (q + 1) := by
      unfold wl
      rw [show 9 * (q + 1) + 1 = 9 * q + 10 by omega]
      refine tab_congr (fun i _ => ?_)
      have := (hg i).2
      rw [T_end q s i 10 (by omega)] at this
      omega
    rw [this]
    exact h
  | succ e ih =>
    intro s g hs hg
    refine ev_succ ?_
    simp only [spec_tkWays.l1]
    have hl : (wl q).length = 9 * q + 1 := tab_len _ _
    have hr : rd (wl q) (s : Int) = W q s := tab_rd (by omega)
    rw [hl, hr]
    refine ev_pos (by omega) (ev_pos (by omega) (ev_pos (by omega) ?_))
    have hn := W_nonneg q s
    have hn2 : W q s ≤ 100000000000000 := by
      have h1 := W_le q s
      have h2 : (10 : Int) ^ q ≤ 10 ^ 14 := p10_le (by omega)
      omega
    have hT : ∀ i : Nat, 0 ≤ T q s i 10 := fun i => T_nonneg q s i 10
    have key := sways_l2 (9 * q + 10) s (W q s) x0 (wl q) ((9 * q + 1 : Nat) : Int) (s : Int) (by omega) (by omega) hn hn2 r 10 0 g (by omega) (fun i _ => ⟨(hg i).1, by have := (hg i).2; have := hT i; have := hW i; omega⟩)
    refine key ?_
    have hw : wrap64 ((s : Int) + 1) = ((s + 1 : Nat) : Int) := wrap_nat (by omega)
    rw [hw]
    refine ih (s + 1) _ (by omega) (fun i => ?_)
    have h1 := hg i
    have h2 := T_step q s i 10
    have h3 : ((s + 1 : Nat) : Int) = (s : Int) + 1 := by omega
    rw [h3]
    by_cases c : s + 0 ≤ i ∧ i < s + 10
    · rw [if_pos c]
      rw [if_pos (by omega)] at h2
      omega
    · rw [if_neg c]
      rw [if_neg (by omega)] at h2
      omega
theorem sways_l0 (p : Nat) (hp : p ≤ 13) : ∀ (e j : Nat), j + e = p → Ev (fun k => spec_tkWays.l0 k (e : Int) (wl j)) (wl p) := by
  intro e
  induction e with
  | zero =>
    intro j hj
    refine ev_succ ?_
    simp only [spec_tkWays.l0]
    have : j = p := by omega
    subst this
    exact ev_neg (by omega) (ev_eq fun _ => rfl)
  | succ e ih =>
    intro j hj
    refine ev_succ ?_
    simp only [spec_tkWays.l0]
    have hl : (wl j).length = 9 * j + 1 := tab_len _ _
    have hw : wrap64 (((9 * j + 1 : Nat) : Int) + 9) = ((9 * j + 10 : Nat) : Int) := by rw [wrap_of (by omega) (by omega)]; omega
    rw [hl, hw, Int.toNat_natCast, tab_zero]
    refine ev_pos (by omega) (ev_pos (by omega) (ev_pos (by omega) ?_))
    refine sways_l1 j (by omega) ((e + 1 : Nat) : Int) (wl p) ?_ (9 * j + 1) 0 (fun _ => 0) (by omega) (fun i => ⟨Int.le_refl 0, ?_⟩)
    · rw [show wrap64 (((e + 1 : Nat) : Int) - 1) = (e : Int) by rw [wrap_of (by omega) (by omega)]; omega]
      exact ih (j + 1) (by omega)
    · have := T_all j i
      simp only [Int.zero_add]
      exact this
theorem sways_ev (p : Nat) (hp : p ≤ 13) : Ev (fun k => spec_tkWays.f k (p : Int)) (wl p) := by
  unfold spec_tkWays.f
  exact sways_l0 p hp p 0 (by omega)
theorem nDig_le (n : Nat) : ∀ k, 0 < k → n < 10 ^ k → Lib.nDigits n ≤ k := by
  induction n using Nat.strongRecOn with
  | _ n ih =>
    intro k hk h
    by_cases c : n < 10
    · rw [Lib.nDigits_small c]; exact hk
    · rw [Lib.nDigits_big c]
      obtain ⟨k, rfl⟩ : ∃ j, k = j + 1 := ⟨k - 1, by omega⟩
      have hk1 : 0 < k := by
        rcases Nat.eq_zero_or_pos k with e | e
        · subst e; simp at h; omega
        · exact e
      have := ih (n / 10) (by omega) k hk1 (by rw [Nat.pow_succ] at h; omega)
      omega

/-! ### the reference's own decimals -/
theorem strOne (x : Int) (h0 : 0 ≤ x) (h : x < 256) : strOfNums [x] = (⟨[UInt8.ofNat x.toNat].toArray⟩ : ByteArray) := by
  unfold strOfNums
  simp
theorem l1Num_ev (n : Nat) (hn : n ≤ 9223372036854775807) : Ev (fun k => spec_l1Num.f k (n : Int)) ⟨(Lib.decDigits n).toArray⟩ := by
  induction n using Nat.strongRecOn with
  | _ n ih =>
    refine ev_succ ?_
    simp only [spec_l1Num.f]
    by_cases h : n < 10
    · refine ev_pos (by omega) (ev_eq fun _ => ?_)
      have e : wrap64 (48 + (n : Int)) % 256 = 48 + (n : Int) := by rw [wrap_of (by omega) (by omega)]; omega
      rw [e, strOne _ (by omega) (by omega), Lib.decDigits_one h, show (48 + (n : Int)).toNat = 48 + n by omega]
    · refine ev_neg (by omega) ?_
      have e1 : wrap64 (Int.tdiv (n : Int) 10) = ((n / 10 : Nat) : Int) := by
        rw [Int.tdiv_eq_ediv_of_nonneg (by omega), wrap_of (by omega) (by omega)]; omega
      rw [e1]
      have hd := ih (n / 10) (by omega) (by omega)
      refine Ev.bind hd (ev_eq fun _ => ?_)
      have e2 : Int.tmod (n : Int) 10 = ((n % 10 : Nat) : Int) := by rw [Int.tmod_eq_emod_of_nonneg (by omega)]; omega
      have e3 : wrap64 (48 + ((n % 10 : Nat) : Int)) % 256 = 48 + ((n % 10 : Nat) : Int) := by rw [wrap_of (by omega) (by omega)]; omega
      rw [e2, e3]
      simp only [Option.bind_some]
      rw [strOne _ (by omega) (by omega), show (48 + ((n % 10 : Nat) : Int)).toNat = 48 + n % 10 by omega]
      have hl := nDig_le (n / 10) 19 (by omega) (by omega)
      rw [mk_size, mk_size, Lib.decDigits_length, if_pos (by simp; omega), mk_append]
      congr 3
      rw [Lib.decDigits.eq_1 n, dif_neg h]

/-! ### the program's digit sum -/
theorem isumOf_loop (t : ByteArray) (hs : t.size ≤ 1099511627776) : ∀ (d i : Nat) (x : Int), i + d = t.size → 0 ≤ x → x ≤ 255 * i →
    Ev (fun k => impl_sumOf.l0 k t x (t.size : Int) (i : Int)) (x + lsum (t.data.toList.drop i)) := by
  intro d
  induction d with
  | zero =>
    intro i x hi _ _
    refine ev_succ ?_
    simp only [impl_sumOf.l0]
    rw [List.drop_eq_nil_of_le (by rw [size_len]; omega)]
    exact ev_neg (by omega) (ev_eq fun _ => by simp [lsum])
  | succ d ih =>
    intro i x hi h0 h1
    refine ev_succ ?_
    simp only [impl_sumOf.l0]
    have hlt : i < t.data.toList.length := by rw [size_len]; omega
    rw [bt_get t i hlt, List.drop_eq_getElem_cons hlt, wrap_nat (by omega)]
    have hd := dv_range (t.data.toList[i])
    have e1 : ((t.data.toList[i].toNat : Int) - 48) % 256 = dv (t.data.toList[i]) := rfl
    rw [e1, wrap_of (by omega) (by omega)]
    refine ev_pos (by omega) (ev_pos (by omega) (ev_pos (by omega) ?_))
    simp only [lsum]
    rw [← Int.add_assoc]
    exact ih (i + 1) _ (by omega) (by omega) (by omega)
theorem isumOf_ev (t : ByteArray) (hs : t.size ≤ 1099511627776) : Ev (fun k => impl_sumOf.f k t) (lsum t.data.toList) := by
  have h := isumOf_loop t hs t.size 0 0 (by omega) (Int.le_refl 0) (by omega)
  simp only [List.drop_zero, Int.zero_add] at h
  exact h
theorem itoa_nat (n : Nat) (h : n ≤ 9223372036854775807) : strconv_Itoa.f (n : Int) = some ⟨(Lib.decDigits n).toArray⟩ := by
  unfold strconv_Itoa.f
  rw [if_pos (by omega), if_pos (by omega), Lib.itoa_nonneg]
theorem nDigits_le (n : Nat) : ∀ k, 0 < k → n < 10 ^ k → Lib.nDigits n ≤ k := by
  induction n using Nat.strongRecOn with
  | _ n ih =>
    intro k hk h
    by_cases c : n < 10
    · rw [Lib.nDigits_small c]; exact hk
    · rw [Lib.nDigits_big c]
      obtain ⟨k, rfl⟩ : ∃ j, k = j + 1 := ⟨k - 1, by omega⟩
      have hk1 : 0 < k := by
        rcases Nat.eq_zero_or_pos k with e | e
        · subst e; simp at h; omega
        · exact e
      have := ih (n / 10) (by omega) k hk1 (by rw [Nat.pow_succ] at h; omega)
      omega
theorem dec_sum (n : Nat) : lsum (Lib.decDigits n) = ds n := by rw [dec_pad]; exact lsum_pad _ n (Lib.lt_pow_nDigits n)

/-! ### the program's own: at, sumOf, digitSum, padded -/
theorem at_wl (q : Nat) (hq : q ≤ 13) (s : Int) : impl_at.f (wl q) s = some (W q s) := by
  unfold impl_at.f
  have hl : (wl q).length = 9 * q + 1 := tab_len _ _
  rw [hl, wrap_of (by omega) (by omega), within_eq, Option.bind_some]
  by_cases h : 0 ≤ s ∧ s ≤ ((9 * q + 1 : Nat) : Int) - 1
  · rw [if_pos (by simpa using h), if_pos h.1, if_pos (by omega)]
    obtain ⟨j, rfl⟩ : ∃ j : Nat, s = (j : Int) := ⟨s.toNat, by omega⟩
    congr 1
    exact tab_rd (by omega)
  · rw [if_neg (by simpa using h)]
    congr 1
    by_cases c : s < 0
    · exact (W_neg q s c).symm
    · exact (W_big q s (by omega)).symm
theorem repeatL_one (c : Nat) : Lib.repeatL [48] c = List.replicate c (48 : UInt8) := by
  induction c with
  | zero => rfl
  | succ c ih => simp [Lib.repeatL, ih, List.replicate_succ]
theorem ipadded_ev (n p : Nat) (hp : 0 < p) (h : n < 10 ^ p) (hp2 : p ≤ 18) : Ev (fun _ => impl_padded.f (n : Int) (p : Int)) ⟨(pad p n).toArray⟩ := by
  refine ev_eq fun _ => ?_
  unfold impl_padded.f
  have hb : n < 10 ^ 18 := Nat.lt_of_lt_of_le h (Nat.pow_le_pow_right (by omega) hp2)
  have hd := nDigits_le n p hp h
  rw [itoa_nat n (by omega), Option.bind_some, mk_size, Lib.decDigits_length]
  have e1 : wrap64 ((p : Int) - (Lib.nDigits n : Int)) = ((p - Lib.nDigits n : Nat) : Int) := by rw [wrap_of (by omega) (by omega)]; omega
  have e2 : mx 0 ((p - Lib.nDigits n : Nat) : Int) = ((p - Lib.nDigits n : Nat) : Int) := by unfold mx; omega
  rw [e1, e2]
  unfold strings_Repeat.f
  have h48 : (⟨#[48]⟩ : ByteArray).size = 1 := rfl
  have hl48 : (⟨#[48]⟩ : ByteArray).data.toList = [48] := rfl
  rw [if_pos (by omega), if_pos (by omega), Int.toNat_natCast, h48, if_pos (by omega), hl48, repeatL_one]
  simp only [Option.bind_some]
  rw [mk_size, List.length_replicate, if_pos (by omega), mk_append]
  congr 3
  rw [dec_pad, ← pad_front _ _ _ (Lib.lt_pow_nDigits n), Nat.sub_add_cancel hd]

/-! ### texts of digits -/
abbrev mkT (j b : Nat) : ByteArray := ⟨(pad j b).toArray⟩
theorem T_size (j b : Nat) : (mkT j b).size = j := by rw [mk_size, pad_length]
theorem T_list (j b : Nat) : (mkT j b).data.toList = pad j b := list_of _
theorem T_ext0 (j b i : Nat) (h : i ≤ j) : (mkT j b).extract 0 i = mkT i (b / 10 ^ (j - i)) := by
  refine of_list ?_
  rw [take_list _ i (by rw [T_size]; exact h), T_list]
  have := pad_take i (j - i) b
  rw [show i + (j - i) = j by omega] at this
  exact this
theorem T_ext1 (j b i : Nat) (h : i ≤ j) : (mkT j b).extract i j = mkT (j - i) (b % 10 ^ (j - i)) := by
  have e : (mkT j b).extract i j = (mkT j b).extract i (mkT j b).size := by rw [T_size]
  rw [e]
  refine of_list ?_
  rw [drop_list _ i, T_list]
  have := pad_drop (j - i) i b
  rw [show i + (j - i) = j by omega] at this
  exact this
theorem one_digit (d : Nat) (hd : d < 10) : strOfNums [48 + (d : Int)] = (⟨[dch d].toArray⟩ : ByteArray) := by
  rw [strOne _ (by omega) (by omega)]
  congr 3
theorem T_snoc (j b d : Nat) (hd : d < 10) : mkT j b ++ strOfNums [48 + (d : Int)] = mkT (j + 1) (10 * b + d) := by
  rw [one_digit d hd, mk_append]
  simp only [mkT, pad]
  rw [show (10 * b + d) / 10 = b by omega, show (10 * b + d) % 10 = d by omega]
theorem T_bt (j b i : Nat) (h : i < j) : bt (mkT j b) (i : Int) = 48 + ((b / 10 ^ (j - 1 - i) % 10 : Nat) : Int) := by
  have hl : i < (mkT j b).data.toList.length := by rw [T_list, pad_length]; exact h
  rw [bt_get _ i hl, List.getElem_of_eq (T_list j b) hl, pad_get j b i (by rw [pad_length]; exact h), dch_nat (Nat.mod_lt _ (by decide))]; omega
theorem T_empty : (⟨#[]⟩ : ByteArray) = mkT 0 0 := rfl
theorem T_sum (j b : Nat) (hb : b < 10 ^ j) (hj : j ≤ 100) : Ev (fun k => impl_sumOf.f k (mkT j b)) (ds b) := by
  have h := isumOf_ev (mkT j b) (by rw [T_size]; omega)
  rw [T_list, lsum_pad j b hb] at h
  exact h
theorem ssum_loop (t : ByteArray) (hs : t.size ≤ 1099511627776) : ∀ (d i : Nat) (x : Int), i + d = t.size → 0 ≤ x → x ≤ 255 * i →
    Ev (fun k => spec_tkSum.l0 k t x (i : Int)) (x + lsum (t.data.toList.drop i)) := by
  intro d
  induction d with
  | zero =>
    intro i x hi _ _
    refine ev_succ ?_
    simp only [spec_tkSum.l0]
    rw [List.drop_eq_nil_of_le (by rw [size_len]; omega)]
    exact ev_neg (by omega) (ev_eq fun _ => by simp [lsum])
  | succ d ih =>
    intro i x hi h0 h1
    refine ev_succ ?_
    simp only [spec_tkSum.l0]
    have hlt : i < t.data.toList.length := by rw [size_len]; omega
    rw [bt_get t i hlt, List.drop_eq_getElem_cons hlt, wrap_nat (by omega)]
    have hd := dv_range (t.data.toList[i])
    have e1 : ((t.data.toList[i].toNat : Int) - 48) % 256 = dv (t.data.toList[i]) := rfl
    rw [e1, wrap_of (by omega) (by omega)]
    refine ev_pos (by omega) (ev_pos (by omega) ?_)
    simp only [lsum]
    rw [← Int.add_assoc]
    exact ih (i + 1) _ (by omega) (by omega) (by omega)
theorem sT_sum (j b : Nat) (hb : b < 10 ^ j) (hj : j ≤ 100) : Ev (fun k => spec_tkSum.f k (mkT j b)) (ds b) := by
  have h := ssum_loop (mkT j b) (by rw [T_size]; omega) (mkT j b).size 0 0 (by omega) (Int.le_refl 0) (by omega)
  simp only [List.drop_zero, Int.zero_add] at h
  rw [lsum_pad j b hb] at h
  exact h
theorem ds_lt (j b : Nat) (hb : b < 10 ^ j) (hj : j ≤ 100) : 0 ≤ ds b ∧ ds b ≤ 900 := by
  have h1 := ds_le j b hb
  exact ⟨ds_nonneg b, by omega⟩
theorem tkOf_wl (q : Nat) (hq : q ≤ 13) (s : Int) : spec_tkOf.f (wl q) s = some (W q s) := by
  unfold spec_tkOf.f
  have hl : (wl q).length = 9 * q + 1 := tab_len _ _
  rw [hl]
  by_cases c : s < 0
  · rw [if_pos c, W_neg q s c]
  · rw [if_neg c]
    by_cases c2 : s ≥ ((9 * q + 1 : Nat) : Int)
    · rw [if_pos c2, W_big q s (by omega)]
    · rw [if_neg c2, if_pos (by omega), if_pos (by omega)]
      obtain ⟨j, rfl⟩ : ∃ j : Nat, s = (j : Int) := ⟨s.toNat, by omega⟩
      congr 1
      exact tab_rd (by omega)
theorem pow6 (h : Nat) (hh : h ≤ 6) : (10 : Nat) ^ (2 * h) ≤ 1000000000000 := by
  have : (10 : Nat) ^ (2 * h) ≤ 10 ^ 12 := Nat.pow_le_pow_right (by decide) (by omega)
  omega
theorem W6 (k : Nat) (hk : k ≤ 6) (s : Int) : 0 ≤ W k s ∧ W k s ≤ 1000000 := by
  have h1 := W_le k s
  have h2 : (10 : Int) ^ k ≤ 10 ^ 6 := p10_le hk
  exact ⟨W_nonneg k s, by omega⟩
theorem block_le (h j b : Nat) (hj : j ≤ 2 * h) (hb : b < 10 ^ j) : 10 ^ (2 * h - j) * (b + 1) ≤ 10 ^ (2 * h) := by
  have h2 := Nat.mul_le_mul_left (10 ^ (2 * h - j)) (show b + 1 ≤ 10 ^ j from hb)
  rw [← Nat.pow_add, show 2 * h - j + j = 2 * h by omega] at h2
  exact h2
theorem CL_bd (h j b : Nat) (hh : h ≤ 6) (hj : j ≤ 2 * h) (hb : b < 10 ^ j) : 0 ≤ CL h j b ∧ CL h j b ≤ 1000000000000 := by
  have h1 := cntL_block h (2 * h - j) j b (by omega)
  have h2 := cntL_le h (10 ^ (2 * h - j) * (b + 1))
  have h3 := cntL_nonneg h (10 ^ (2 * h - j) * b)
  have h4 := block_le h j b hj hb
  have h5 := pow6 h hh
  exact ⟨CL_nonneg h j b hj, by omega⟩
theorem half_eq (h : Nat) (hh : h ≤ 6) : wrap64 (Int.tdiv ((2 * h : Nat) : Int) 2) = (h : Int) := by
  rw [Int.tdiv_eq_ediv_of_nonneg (by omega), wrap_of (by omega) (by omega)]; omega
theorem sm_bd (k h : Nat) (hk : k ≤ 6) (hh : h ≤ 6) (x : Int) : ∀ i : Nat, 0 ≤ AA k h x i ∧ AA k h x i ≤ i * 1000000000000 := by
  intro i
  induction i with
  | zero => simp [AA, sm]
  | succ i ih =>
    have h1 := W6 k hk (i : Int)
    have h2 := W6 h hh ((i : Int) + x)
    have h3 := Int.mul_nonneg h1.1 h2.1
    have h4 : W k (i : Int) * W h ((i : Int) + x) ≤ 1000000 * 1000000 := Int.mul_le_mul h1.2 h2.2 h2.1 (by decide)
    unfold AA at ih ⊢
    rw [sm]
    omega

theorem icomp_loop (h q b : Nat) (hh : h ≤ 6) (hq : q ≤ 6) (j : Nat) (hj : j ≤ 12) (hb : b < 10 ^ j) : ∀ d i : Nat, i + d = 9 * q + 1 →
    Ev (fun k => impl_completions.l0 k (mkT j b) (AA q h (ds b) i) (wl h) (wl q) ((9 * q + 1 : Nat) : Int) (i : Int)) (AA q h (ds b) (9 * q + 1)) := by
  have hds := ds_lt j b hb (by omega)
  have hl : (wl q).length = 9 * q + 1 := tab_len _ _
  intro d
  induction d with
  | zero =>
    intro i hi
    obtain rfl : i = 9 * q + 1 := by omega
    refine ev_succ ?_
    simp only [impl_completions.l0]
    exact ev_neg (by omega) (ev_eq fun _ => rfl)
  | succ d ih =>
    intro i hi
    have hlt : i < 9 * q + 1 := by omega
    have hr : rd (wl q) (i : Int) = W q (i : Int) := tab_rd hlt
    have h1 := W6 q hq (i : Int)
    have h2 := W6 h hh ((i : Int) + ds b)
    have h3 := Int.mul_nonneg h1.1 h2.1
    have h4 : W q (i : Int) * W h ((i : Int) + ds b) ≤ 1000000 * 1000000 := Int.mul_le_mul h1.2 h2.2 h2.1 (by decide)
    have h5 := sm_bd q h hq hh (ds b) i
    have hn := ih (i + 1) (by omega)
    have e : AA q h (ds b) (i + 1) = AA q h (ds b) i + W q (i : Int) * W h ((i : Int) + ds b) := rfl
    rw [e] at hn
    refine ev_succ ?_
    simp only [impl_completions.l0]
    rw [hl, hr, wrap_nat (by omega)]
    refine ev_pos (by omega) (ev_pos (by omega) (ev_pos (by omega) (Ev.bind (T_sum j b hb (by omega)) ?_)))
    rw [wrap_of (x := (i : Int) + ds b) (by omega) (by omega)]
    refine ev_bind (at_wl h (by omega) _) ?_
    rw [wrap_of (x := W q (i : Int) * W h ((i : Int) + ds b)) (by omega) (by omega), wrap_of (x := AA q h (ds b) i + W q (i : Int) * W h ((i : Int) + ds b)) (by omega) (by omega)]
    exact hn
theorem icomp_ev (h j b : Nat) (h1 : 1 ≤ h) (hh : h ≤ 6) (hj : j ≤ 2 * h) (hb : b < 10 ^ j) : Ev (fun k => impl_completions.f k ((2 * h : Nat) : Int) (mkT j b)) (CL h j b) := by
  unfold impl_completions.f
  rw [half_eq h hh, T_size, Int.toNat_natCast]
  by_cases c : h ≤ j
  · refine ev_pos (by omega) ?_
    rw [show wrap64 (((2 * h : Nat) : Int) - (j : Int)) = ((2 * h - j : Nat) : Int) by rw [wrap_of (by omega) (by omega)]; omega, T_ext0 j b h (by omega), T_ext1 j b h (by omega)]
    have hb1 : b / 10 ^ (j - h) < 10 ^ h := by
      rw [Nat.div_lt_iff_lt_mul (p10n _), ← Nat.pow_add, show h + (j - h) = j by omega]; exact hb
    have hb2 : b % 10 ^ (j - h) < 10 ^ (j - h) := Nat.mod_lt _ (p10n _)
    have d1 := ds_lt h _ hb1 (by omega)
    have d2 := ds_lt (j - h) _ hb2 (by omega)
    refine Ev.bind (iways_ev (2 * h - j) (by omega)) (ev_pos (by omega) (ev_pos (by omega) (Ev.bind (T_sum h _ hb1 (by omega)) (Ev.bind (T_sum (j - h) _ hb2 (by omega)) ?_))))
    rw [wrap_of (by omega) (by omega)]
    refine ev_bind (at_wl (2 * h - j) (by omega) _) (ev_eq fun _ => ?_)
    unfold CL
    rw [if_pos (by omega)]
  · refine ev_neg (by omega) ?_
    rw [show wrap64 ((h : Int) - (j : Int)) = ((h - j : Nat) : Int) by rw [wrap_of (by omega) (by omega)]; omega]
    refine Ev.bind (iways_ev h (by omega)) (Ev.bind (iways_ev (h - j) (by omega)) ?_)
    have hl : (wl (h - j)).length = 9 * (h - j) + 1 := tab_len _ _
    rw [hl]
    have := icomp_loop h (h - j) b hh (by omega) j (by omega) hb (9 * (h - j) + 1) 0 (by omega)
    have e : CL h j b = AA (h - j) h (ds b) (9 * (h - j) + 1) := by
      unfold CL
      by_cases c2 : h ≤ j
      · omega
      · rw [if_neg c2, DD_sum]
    rw [e]
    exact this
theorem pre_step (n m i : Nat) (hi : i < n) : m / 10 ^ (n - (i + 1)) = 10 * (m / 10 ^ (n - i)) + m / 10 ^ (n - 1 - i) % 10 := by
  rw [show n - i = (n - 1 - i) + 1 by omega, show n - (i + 1) = n - 1 - i by omega, Nat.pow_succ, ← Nat.div_div_eq_div_mul]
  omega
theorem pre_lt (n m i : Nat) (hi : i ≤ n) (hm : m < 10 ^ n) : m / 10 ^ (n - i) < 10 ^ i := by
  rw [Nat.div_lt_iff_lt_mul (p10n _), ← Nat.pow_add, show i + (n - i) = n by omega]; exact hm
theorem cons_lt (b d i : Nat) (hb : b < 10 ^ i) (hd : d < 10) : 10 * b + d < 10 ^ (i + 1) := by rw [Nat.pow_succ]; omega
theorem cntL_bd (h j b : Nat) (hh : h ≤ 6) (hj : j ≤ 2 * h) (hb : b ≤ 10 ^ j) : 0 ≤ cntL h (10 ^ (2 * h - j) * b) ∧ cntL h (10 ^ (2 * h - j) * b) ≤ 1000000000000 := by
  have h2 := cntL_le h (10 ^ (2 * h - j) * b)
  have h4 : 10 ^ (2 * h - j) * b ≤ 10 ^ (2 * h) := by
    have h2 := Nat.mul_le_mul_left (10 ^ (2 * h - j)) hb
    rw [← Nat.pow_add, show 2 * h - j + j = 2 * h by omega] at h2
    exact h2
  have h5 := pow6 h hh
  exact ⟨cntL_nonneg h _, by omega⟩
theorem blk (h i b d : Nat) (hi : i < 2 * h) : cntL h (10 ^ (2 * h - (i + 1)) * (10 * b + (d + 1))) = cntL h (10 ^ (2 * h - (i + 1)) * (10 * b + d)) + CL h (i + 1) (10 * b + d) := by
  have := cntL_block h (2 * h - (i + 1)) (i + 1) (10 * b + d) (by omega)
  rw [← Nat.add_assoc]; exact this
theorem blk0 (h i b : Nat) (hi : i < 2 * h) : 10 ^ (2 * h - i) * b = 10 ^ (2 * h - (i + 1)) * (10 * b + 0) := by
  rw [show 2 * h - i = (2 * h - (i + 1)) + 1 by omega, Nat.pow_succ, Nat.mul_assoc]; rfl
theorem blk10 (h i b : Nat) (hi : i < 2 * h) : 10 ^ (2 * h - i) * (b + 1) = 10 ^ (2 * h - (i + 1)) * (10 * b + (9 + 1)) := by
  rw [show 2 * h - i = (2 * h - (i + 1)) + 1 by omega, Nat.pow_succ, Nat.mul_assoc]; congr 1
theorem irank_l1 (h m : Nat) (h1 : 1 ≤ h) (hh : h ≤ 6) (hm : m < 10 ^ (2 * h)) (i : Nat) (hi : i < 2 * h) (r : Int)
    (hn : Ev (fun k => impl_rankOfLucky.l0 k (mkT (2 * h) m) (cntL h (10 ^ (2 * h - (i + 1)) * (m / 10 ^ (2 * h - (i + 1))))) ((2 * h : Nat) : Int) ((i + 1 : Nat) : Int)) r) :
    ∀ e d : Nat, d + e = m / 10 ^ (2 * h - 1 - i) % 10 →
      Ev (fun k => impl_rankOfLucky.l1 k (mkT (2 * h) m) (cntL h (10 ^ (2 * h - (i + 1)) * (10 * (m / 10 ^ (2 * h - i)) + d))) (i : Int) (48 + (d : Int)) ((2 * h : Nat) : Int) (i : Int)) r := by
  have hp := pre_lt (2 * h) m i (by omega) hm
  have ht : m / 10 ^ (2 * h - 1 - i) % 10 < 10 := Nat.mod_lt _ (by decide)
  intro e
  induction e with
  | zero =>
    intro d hd
    refine ev_succ ?_
    simp only [impl_rankOfLucky.l1]
    rw [T_size, T_bt _ _ _ hi]
    refine ev_pos (by omega) (ev_pos (by omega) (ev_neg (by omega) ?_))
    rw [show d = m / 10 ^ (2 * h - 1 - i) % 10 by omega, ← pre_step _ _ _ hi, wrap_nat (by omega)]
    exact hn
  | succ e ih =>
    intro d hd
    have hc := CL_bd h (i + 1) (10 * (m / 10 ^ (2 * h - i)) + d) hh (by omega) (cons_lt _ _ _ hp (by omega))
    have hb := cntL_bd h (i + 1) (10 * (m / 10 ^ (2 * h - i)) + d) hh (by omega) (Nat.le_of_lt (cons_lt _ _ _ hp (by omega)))
    have hk := blk h i (m / 10 ^ (2 * h - i)) d hi
    refine ev_succ ?_
    simp only [impl_rankOfLucky.l1, Option.bind_some]
    rw [T_size, T_bt _ _ _ hi, Int.toNat_natCast, T_ext0 _ _ _ (by omega), T_size, one_digit d (by omega), ← one_digit d (by omega), T_snoc _ _ _ (by omega)]
    refine ev_pos (by omega) (ev_pos (by omega) (ev_pos (by omega) (ev_pos (by omega) (ev_pos ?_ (Ev.bind (icomp_ev h (i + 1) _ h1 hh (by omega) (cons_lt _ _ _ hp (by omega))) ?_)))))
    · rw [one_digit d (by omega), mk_size]; simp; omega
    · rw [wrap_of (by omega) (by omega), ← hk, show (48 + (d : Int) + 1) % 256 = 48 + ((d + 1 : Nat) : Int) by omega]
      exact ih (d + 1) (by omega)
theorem irank_l0 (h m : Nat) (h1 : 1 ≤ h) (hh : h ≤ 6) (hm : m < 10 ^ (2 * h)) : ∀ e i : Nat, i + e = 2 * h →
    Ev (fun k => impl_rankOfLucky.l0 k (mkT (2 * h) m) (cntL h (10 ^ (2 * h - i) * (m / 10 ^ (2 * h - i)))) ((2 * h : Nat) : Int) (i : Int)) (cntL h m) := by
  intro e
  induction e with
  | zero =>
    intro i hi
    obtain rfl : i = 2 * h := by omega
    refine ev_succ ?_
    simp only [impl_rankOfLucky.l0]
    exact ev_neg (by omega) (ev_eq fun _ => by simp)
  | succ e ih =>
    intro i hi
    refine ev_succ ?_
    simp only [impl_rankOfLucky.l0]
    refine ev_pos (by omega) ?_
    have := irank_l1 h m h1 hh hm i (by omega) (cntL h m) (ih (i + 1) (by omega)) (m / 10 ^ (2 * h - 1 - i) % 10) 0 (by omega)
    rw [← blk0 h i _ (by omega)] at this
    exact this
theorem irank_ev (h m : Nat) (h1 : 1 ≤ h) (hh : h ≤ 6) (hm : m < 10 ^ (2 * h)) : Ev (fun k => impl_rankOfLucky.f k (mkT (2 * h) m)) (cntL h m) := by
  unfold impl_rankOfLucky.f
  rw [T_size]
  have := irank_l0 h m h1 hh hm (2 * h) 0 (by omega)
  rw [Nat.sub_zero, Nat.div_eq_of_lt hm, Nat.mul_zero] at this
  exact this
def atRank (h : Nat) (R : Int) (i b : Nat) : Prop := b < 10 ^ i ∧ cntL h (10 ^ (2 * h - i) * b) ≤ R ∧ R < cntL h (10 ^ (2 * h - i) * (b + 1))
theorem atRank_end {h b : Nat} {R : Int} (g : atRank h R (2 * h) b) : b < 10 ^ (2 * h) ∧ lky h b = true ∧ cntL h b = R := by
  obtain ⟨h1, h2, h3⟩ := g
  rw [Nat.sub_self, Nat.pow_zero, Nat.one_mul] at h2 h3
  simp only [cntL] at h3
  by_cases c : lky h b = true
  · rw [if_pos c] at h3; exact ⟨h1, c, by omega⟩
  · rw [if_neg c] at h3; omega
theorem iof_l1 (h : Nat) (h1 : 1 ≤ h) (hh : h ≤ 6) (R : Int) (i b : Nat) (hi : i < 2 * h) (hb : b < 10 ^ i) (hR : R < cntL h (10 ^ (2 * h - i) * (b + 1)))
    (hn : ∀ c, atRank h R (i + 1) c → ∃ m, atRank h R (2 * h) m ∧ Ev (fun k => impl_LuckyOfRank.l0 k ((2 * h : Nat) : Int) (R - cntL h (10 ^ (2 * h - (i + 1)) * c)) (mkT (i + 1) c) ((2 * h : Nat) : Int) ((i + 1 : Nat) : Int)) (mkT (2 * h) m, true)) :
    ∀ e d : Nat, d + e = 9 → cntL h (10 ^ (2 * h - (i + 1)) * (10 * b + d)) ≤ R → ∃ m, atRank h R (2 * h) m ∧
      Ev (fun k => impl_LuckyOfRank.l1 k ((2 * h : Nat) : Int) (R - cntL h (10 ^ (2 * h - (i + 1)) * (10 * b + d))) (mkT i b) (48 + (d : Int)) ((2 * h : Nat) : Int) (i : Int)) (mkT (2 * h) m, true) := by
  have step : ∀ d : Nat, d < 10 → cntL h (10 ^ (2 * h - (i + 1)) * (10 * b + d)) ≤ R → (∀ (f : R < cntL h (10 ^ (2 * h - (i + 1)) * (10 * b + (d + 1)))), False) ∨ ∃ m, atRank h R (2 * h) m ∧
      Ev (fun k => impl_LuckyOfRank.l1 k ((2 * h : Nat) : Int) (R - cntL h (10 ^ (2 * h - (i + 1)) * (10 * b + d))) (mkT i b) (48 + (d : Int)) ((2 * h : Nat) : Int) (i : Int)) (mkT (2 * h) m, true) := by
    intro d hd hle
    by_cases c : R < cntL h (10 ^ (2 * h - (i + 1)) * (10 * b + (d + 1)))
    · refine .inr ?_
      have hk := blk h i b d hi
      obtain ⟨m, hm, hev⟩ := hn (10 * b + d) ⟨cons_lt _ _ _ hb hd, hle, c⟩
      refine ⟨m, hm, ev_succ ?_⟩
      simp only [impl_LuckyOfRank.l1, Option.bind_some]
      rw [T_snoc _ _ _ hd, T_size, one_digit d hd, wrap_nat (by omega)]
      exact ev_pos (by rw [mk_size]; simp; omega) (Ev.bind (icomp_ev h (i + 1) _ h1 hh (by omega) (cons_lt _ _ _ hb hd)) (ev_pos (by omega) hev))
    · exact .inl c
  intro e
  induction e with
  | zero =>
    intro d hd hle
    obtain rfl : d = 9 := by omega
    rcases step 9 (by decide) hle with f | g
    · exact absurd (by rw [blk10 h i b hi] at hR; exact hR) f
    · exact g
  | succ e ih =>
    intro d hd hle
    rcases step d (by omega) hle with f | g
    · have hk := blk h i b d hi
      have hc := CL_bd h (i + 1) (10 * b + d) hh (by omega) (cons_lt _ _ _ hb (by omega))
      have hbd := cntL_bd h (i + 1) (10 * b + d) hh (by omega) (Nat.le_of_lt (cons_lt _ _ _ hb (by omega)))
      have hR2 := cntL_bd h i (b + 1) hh (by omega) hb
      have hge : cntL h (10 ^ (2 * h - (i + 1)) * (10 * b + (d + 1))) ≤ R := by
        rcases Int.lt_or_le R (cntL h (10 ^ (2 * h - (i + 1)) * (10 * b + (d + 1)))) with q | q
        · exact absurd q f
        · exact q
      obtain ⟨m, hm, hev⟩ := ih (d + 1) (by omega) hge
      refine ⟨m, hm, ev_succ ?_⟩
      simp only [impl_LuckyOfRank.l1, Option.bind_some]
      rw [T_snoc _ _ _ (by omega), T_size, one_digit d (by omega)]
      refine ev_pos (by rw [mk_size]; simp; omega) (Ev.bind (icomp_ev h (i + 1) _ h1 hh (by omega) (cons_lt _ _ _ hb (by omega))) (ev_neg (by omega) ?_))
      rw [wrap_of (by omega) (by omega), show (48 + (d : Int) + 1) % 256 = 48 + ((d + 1 : Nat) : Int) by omega, show R - cntL h (10 ^ (2 * h - (i + 1)) * (10 * b + d)) - CL h (i + 1) (10 * b + d) = R - cntL h (10 ^ (2 * h - (i + 1)) * (10 * b + (d + 1))) by omega]
      exact hev
    · exact g
theorem iof_l0 (h : Nat) (h1 : 1 ≤ h) (hh : h ≤ 6) (R : Int) : ∀ e i b : Nat, i + e = 2 * h → atRank h R i b → ∃ m, atRank h R (2 * h) m ∧
    Ev (fun k => impl_LuckyOfRank.l0 k ((2 * h : Nat) : Int) (R - cntL h (10 ^ (2 * h - i) * b)) (mkT i b) ((2 * h : Nat) : Int) (i : Int)) (mkT (2 * h) m, true) := by
  intro e
  induction e with
  | zero =>
    intro i b hi hb
    obtain rfl : i = 2 * h := by omega
    refine ⟨b, hb, ev_succ ?_⟩
    simp only [impl_LuckyOfRank.l0]
    exact ev_neg (by omega) (ev_eq fun _ => rfl)
  | succ e ih =>
    intro i b hi hb
    obtain ⟨m, hm, hev⟩ := iof_l1 h h1 hh R i b (by omega) hb.1 hb.2.2 (fun c hc => ih (i + 1) c (by omega) hc) 9 0 (by omega) (by rw [← blk0 h i b (by omega)]; exact hb.2.1)
    refine ⟨m, hm, ev_succ ?_⟩
    simp only [impl_LuckyOfRank.l0]
    rw [← blk0 h i b (by omega)] at hev
    exact ev_pos (by omega) hev

/-! ### tickets and their functions -/
def okSz (n : Int) : Bool := decide ((2 ≤ n ∧ n ≤ 12) ∧ n % 2 = 0)
theorem tmod_two (n : Int) : (Int.tmod n 2 == 0) = decide (n % 2 = 0) := by
  rw [Bool.eq_iff_iff]; simp only [beq_iff_eq, decide_eq_true_eq]
  constructor
  · intro e
    have := Int.dvd_of_tmod_eq_zero e
    omega
  · intro e
    exact Int.tmod_eq_zero_of_dvd (by omega)
theorem isSize_eq (n : Int) : impl_isSize.f n = some (okSz n) := by
  unfold impl_isSize.f
  rw [within_eq, Option.bind_some, tmod_two]
  by_cases c : 2 ≤ n ∧ n ≤ 12
  · rw [if_pos (decide_eq_true c)]; congr 1; unfold okSz; simp [c]
  · rw [if_neg (by simpa using c)]; congr 1; unfold okSz; exact (decide_eq_false (fun e => c e.1)).symm
theorem tkSize_eq (n : Int) : spec_tkSize.f n = some (okSz n) := by
  unfold spec_tkSize.f
  rw [l1In_eq, Option.bind_some, tmod_two]
  by_cases c : 2 ≤ n ∧ n ≤ 12
  · rw [if_pos (decide_eq_true c)]; congr 1; unfold okSz; simp [c]
  · rw [if_neg (by simpa using c)]; congr 1; unfold okSz; exact (decide_eq_false (fun e => c e.1)).symm
theorem okSz_half {n : Int} (h : okSz n = true) : ∃ q : Nat, 1 ≤ q ∧ q ≤ 6 ∧ n = ((2 * q : Nat) : Int) := by
  unfold okSz at h
  rw [decide_eq_true_eq] at h
  exact ⟨(n / 2).toNat, by omega, by omega, by omega⟩
theorem okSz_of (q : Nat) (h1 : 1 ≤ q) (h6 : q ≤ 6) : okSz ((2 * q : Nat) : Int) = true := by
  unfold okSz; rw [decide_eq_true_eq]; omega
def isD (b : UInt8) : Bool := decide (48 ≤ b.toNat ∧ b.toNat ≤ 57)
def okTk (s : ByteArray) : Bool := okSz (s.size : Int) && s.data.toList.all isD
theorem dig_loop (s : ByteArray) (hs : s.size ≤ 1000000) (lo hi : Int) : ∀ d i : Nat, i + d = s.size → Ev (fun k => impl_areDigits.l0 k s lo hi (s.size : Int) (i : Int)) ((s.data.toList.drop i).all isD && decide (lo ≤ (s.size : Int) ∧ (s.size : Int) ≤ hi)) := by
  intro d
  induction d with
  | zero =>
    intro i hi2
    refine ev_succ ?_
    simp only [impl_areDigits.l0]
    rw [within_eq, List.drop_eq_nil_of_le (by rw [size_len]; omega)]
    exact ev_neg (by omega) (ev_eq fun _ => by simp)
  | succ d ih =>
    intro i hi2
    have hlt : i < s.data.toList.length := by rw [size_len]; omega
    refine ev_succ ?_
    simp only [impl_areDigits.l0]
    rw [bt_get s i hlt, List.drop_eq_getElem_cons hlt, wrap_nat (by omega), List.all_cons]
    refine ev_pos (by omega) (ev_pos (by omega) (ev_pos (by omega) ?_))
    by_cases c : (s.data.toList[i].toNat : Int) < 48
    · have e : isD s.data.toList[i] = false := by unfold isD; exact decide_eq_false (by omega)
      rw [e]; exact ev_pos c (ev_eq fun _ => rfl)
    by_cases c2 : (s.data.toList[i].toNat : Int) > 57
    · have e : isD s.data.toList[i] = false := by unfold isD; exact decide_eq_false (by omega)
      rw [e]; exact ev_neg c (ev_pos c2 (ev_eq fun _ => rfl))
    · have e : isD s.data.toList[i] = true := by unfold isD; exact decide_eq_true (by omega)
      rw [e, Bool.true_and]
      exact ev_neg c (ev_neg c2 (ih (i + 1) (by omega)))
theorem areDigits_ev (s : ByteArray) (hs : s.size ≤ 1000000) (lo hi : Int) : Ev (fun k => impl_areDigits.f k s lo hi) (s.data.toList.all isD && decide (lo ≤ (s.size : Int) ∧ (s.size : Int) ≤ hi)) := by
  unfold impl_areDigits.f
  exact dig_loop s hs lo hi s.size 0 (by omega)
theorem isTicket_ev (s : ByteArray) (hs : s.size ≤ 1000000) : Ev (fun k => impl_IsTicket.f k s) (okTk s) := by
  unfold impl_IsTicket.f
  refine Ev.bind (areDigits_ev s hs 2 12) ?_
  have e2 : (((s.size : Int) % 2) == 0) = decide ((s.size : Int) % 2 = 0) := by rw [Bool.eq_iff_iff]; simp
  rw [e2]
  unfold okTk okSz
  by_cases c : s.data.toList.all isD = true
  · rw [c, Bool.true_and, Bool.and_true]
    by_cases c2 : (2 : Int) ≤ s.size ∧ (s.size : Int) ≤ 12
    · refine ev_pos (decide_eq_true c2) (ev_eq fun _ => ?_)
      congr 1; rw [decide_eq_decide]; exact ⟨fun h => ⟨c2, h⟩, fun h => h.2⟩
    · refine ev_neg (by simpa using c2) (ev_eq fun _ => ?_)
      congr 1; exact (decide_eq_false (fun h => c2 h.1)).symm
  · rw [Bool.not_eq_true] at c
    rw [c, Bool.false_and, Bool.and_false]
    exact ev_neg (by decide) (ev_eq fun _ => rfl)
theorem good_loop (s : ByteArray) (hs : s.size ≤ 1000000) : ∀ d i : Nat, i + d = s.size → Ev (fun k => spec_tkGood.l0 k s (i : Int)) ((s.data.toList.drop i).all isD) := by
  intro d
  induction d with
  | zero =>
    intro i hi2
    refine ev_succ ?_
    simp only [spec_tkGood.l0]
    rw [List.drop_eq_nil_of_le (by rw [size_len]; omega)]
    exact ev_neg (by omega) (ev_eq fun _ => rfl)
  | succ d ih =>
    intro i hi2
    have hlt : i < s.data.toList.length := by rw [size_len]; omega
    refine ev_succ ?_
    simp only [spec_tkGood.l0]
    rw [bt_get s i hlt, List.drop_eq_getElem_cons hlt, wrap_nat (by omega), List.all_cons]
    refine ev_pos (by omega) (ev_pos (by omega) ?_)
    by_cases c : (s.data.toList[i].toNat : Int) < 48
    · have e : isD s.data.toList[i] = false := by unfold isD; exact decide_eq_false (by omega)
      rw [e]; exact ev_pos c (ev_eq fun _ => rfl)
    by_cases c2 : (s.data.toList[i].toNat : Int) > 57
    · have e : isD s.data.toList[i] = false := by unfold isD; exact decide_eq_false (by omega)
      rw [e]; exact ev_neg c (ev_pos c2 (ev_eq fun _ => rfl))
    · have e : isD s.data.toList[i] = true := by unfold isD; exact decide_eq_true (by omega)
      rw [e, Bool.true_and]
      exact ev_neg c (ev_neg c2 (ih (i + 1) (by omega)))
theorem tkGood_ev (s : ByteArray) (hs : s.size ≤ 1000000) : Ev (fun k => spec_tkGood.f k s) (okTk s) := by
  unfold spec_tkGood.f okTk
  refine ev_bind (tkSize_eq _) ?_
  by_cases c : okSz (s.size : Int) = true
  · rw [c, Bool.true_and]; exact ev_pos rfl (good_loop s hs s.size 0 (by omega))
  · rw [Bool.not_eq_true] at c
    rw [c, Bool.false_and]; exact ev_neg (by decide) (ev_eq fun _ => rfl)
/-- a text of digits tells a number -/
theorem all_pad : ∀ (n : Nat) (l : List UInt8), l.length = n → l.all isD = true → ∃ m, m < 10 ^ n ∧ l = pad n m := by
  intro n
  induction n with
  | zero => intro l hl _; exact ⟨0, by decide, by rw [List.length_eq_zero_iff.mp hl]; rfl⟩
  | succ n ih =>
    intro l hl ha
    have hne : l ≠ [] := by intro e; rw [e] at hl; simp at hl
    obtain ⟨t, x, rfl⟩ : ∃ t x, l = t ++ [x] := ⟨l.dropLast, l.getLast hne, (List.dropLast_concat_getLast hne).symm⟩
    rw [List.all_append, Bool.and_eq_true] at ha
    obtain ⟨m, hm, rfl⟩ := ih t (by simpa using hl) ha.1
    have hx : 48 ≤ x.toNat ∧ x.toNat ≤ 57 := by have := ha.2; simp [isD] at this; exact this
    refine ⟨10 * m + (x.toNat - 48), cons_lt _ _ _ hm (by omega), ?_⟩
    simp only [pad]
    rw [show (10 * m + (x.toNat - 48)) / 10 = m by omega, show (10 * m + (x.toNat - 48)) % 10 = x.toNat - 48 by omega]
    congr 2
    unfold dch
    rw [show 48 + (x.toNat - 48) = x.toNat by omega]
    exact (UInt8.ofNat_toNat).symm
theorem tk_form {s : ByteArray} (h : okTk s = true) : ∃ q m : Nat, 1 ≤ q ∧ q ≤ 6 ∧ m < 10 ^ (2 * q) ∧ s = mkT (2 * q) m := by
  unfold okTk at h
  rw [Bool.and_eq_true] at h
  obtain ⟨q, h1, h6, hq⟩ := okSz_half h.1
  obtain ⟨m, hm, hl⟩ := all_pad (2 * q) s.data.toList (by rw [size_len]; omega) h.2
  exact ⟨q, m, h1, h6, hm, of_list hl⟩
theorem pad_all (n m : Nat) : (pad n m).all isD = true := by
  induction n generalizing m with
  | zero => rfl
  | succ n ih =>
    simp only [pad]
    rw [List.all_append, ih, Bool.true_and]
    have hh := dch_nat (Nat.mod_lt m (by decide : 0 < 10))
    have := Nat.mod_lt m (by decide : 0 < 10)
    simp [isD]; omega
theorem okTk_T (q m : Nat) (h1 : 1 ≤ q) (h6 : q ≤ 6) : okTk (mkT (2 * q) m) = true := by
  unfold okTk
  rw [T_size, okSz_of q h1 h6, T_list, pad_all]; rfl
theorem pad_inj (n : Nat) : ∀ a b, a < 10 ^ n → b < 10 ^ n → pad n a = pad n b → a = b := by
  intro a b ha hb e
  have h1 := lnum_pad n a ha
  have h2 := lnum_pad n b hb
  rw [e, h2] at h1; omega

theorem isLucky_ev (q m : Nat) (h1 : 1 ≤ q) (h6 : q ≤ 6) (hm : m < 10 ^ (2 * q)) : Ev (fun k => impl_isLucky.f k (mkT (2 * q) m)) (lky q m) := by
  have hw : wrap64 (((2 * q : Nat) : Int) / 2) = (q : Int) := by rw [wrap_of (by omega) (by omega)]; omega
  have hb1 : m / 10 ^ q < 10 ^ q := by rw [Nat.div_lt_iff_lt_mul (p10n _), ← Nat.pow_add, show q + q = 2 * q by omega]; exact hm
  have hb2 : m % 10 ^ q < 10 ^ q := Nat.mod_lt _ (p10n _)
  unfold impl_isLucky.f impl_halves.f
  rw [T_size, hw, if_pos (by omega), if_pos (by omega), Int.toNat_natCast, T_ext0 _ _ _ (by omega), T_ext1 _ _ _ (by omega), show 2 * q - q = q by omega]
  refine ev_bind rfl (Ev.bind (T_sum q _ hb1 (by omega)) (Ev.bind (T_sum q _ hb2 (by omega)) (ev_eq fun _ => ?_)))
  congr 1
theorem tkLucky_ev (q m : Nat) (h1 : 1 ≤ q) (h6 : q ≤ 6) (hm : m < 10 ^ (2 * q)) : Ev (fun k => spec_tkLucky.f k (mkT (2 * q) m)) (lky q m) := by
  have hw : wrap64 (((2 * q : Nat) : Int) / 2) = (q : Int) := by rw [wrap_of (by omega) (by omega)]; omega
  have hb1 : m / 10 ^ q < 10 ^ q := by rw [Nat.div_lt_iff_lt_mul (p10n _), ← Nat.pow_add, show q + q = 2 * q by omega]; exact hm
  have hb2 : m % 10 ^ q < 10 ^ q := Nat.mod_lt _ (p10n _)
  unfold spec_tkLucky.f spec_tkHalves.f
  rw [T_size, hw, Int.toNat_natCast, T_ext0 _ _ _ (by omega), T_ext1 _ _ _ (by omega), show 2 * q - q = q by omega]
  refine Ev.bind (a := (ds (m / 10 ^ q), ds (m % 10 ^ q))) (ev_pos (by omega) (ev_pos (by omega) (Ev.bind (sT_sum q _ hb1 (by omega)) (Ev.bind (sT_sum q _ hb2 (by omega)) (ev_eq fun _ => rfl))))) (ev_eq fun _ => ?_)
  congr 1
def total (q : Nat) : Int := cntL q (10 ^ (2 * q))
theorem total_bd (q : Nat) (h6 : q ≤ 6) : 0 ≤ total q ∧ total q ≤ 1000000000000 := by
  have h2 := cntL_le q (10 ^ (2 * q))
  have h5 := pow6 q h6
  exact ⟨cntL_nonneg _ _, by unfold total; omega⟩
theorem count_loop (q : Nat) (h6 : q ≤ 6) : ∀ d i : Nat, i + d = 9 * q + 1 → Ev (fun k => impl_countLucky.l0 k (AA q q 0 i) (wl q) ((9 * q + 1 : Nat) : Int) (i : Int)) (AA q q 0 (9 * q + 1)) := by
  intro d
  induction d with
  | zero =>
    intro i hi
    obtain rfl : i = 9 * q + 1 := by omega
    refine ev_succ ?_
    simp only [impl_countLucky.l0]
    exact ev_neg (by omega) (ev_eq fun _ => rfl)
  | succ d ih =>
    intro i hi
    have hlt : i < 9 * q + 1 := by omega
    have hl : (wl q).length = 9 * q + 1 := tab_len _ _
    have hr : rd (wl q) (i : Int) = W q (i : Int) := tab_rd hlt
    have h1 := W6 q h6 (i : Int)
    have h3 := Int.mul_nonneg h1.1 h1.1
    have h4 : W q (i : Int) * W q (i : Int) ≤ 1000000 * 1000000 := Int.mul_le_mul h1.2 h1.2 h1.1 (by decide)
    have h5 := sm_bd q q h6 h6 0 i
    have hn := ih (i + 1) (by omega)
    have e : AA q q 0 (i + 1) = AA q q 0 i + W q (i : Int) * W q (i : Int) := by unfold AA; rw [sm, Int.add_zero]
    rw [e] at hn
    refine ev_succ ?_
    simp only [impl_countLucky.l0]
    rw [hl, hr, wrap_nat (by omega), wrap_of (x := W q (i : Int) * W q (i : Int)) (by omega) (by omega), wrap_of (x := AA q q 0 i + W q (i : Int) * W q (i : Int)) (by omega) (by omega)]
    exact ev_pos (by omega) (ev_pos (by omega) (ev_pos (by omega) hn))
theorem countLucky_ev (q : Nat) (h1 : 1 ≤ q) (h6 : q ≤ 6) : Ev (fun k => impl_countLucky.f k ((2 * q : Nat) : Int)) (total q) := by
  unfold impl_countLucky.f total
  rw [half_eq q h6, cntL_all q h1]
  refine Ev.bind (iways_ev q (by omega)) ?_
  have hl : (wl q).length = 9 * q + 1 := tab_len _ _
  rw [hl]
  exact count_loop q h6 (9 * q + 1) 0 (by omega)
theorem cnt12 (q m : Nat) (h6 : q ≤ 6) (hm : m ≤ 10 ^ (2 * q)) : 0 ≤ cntL q m ∧ cntL q m ≤ 1000000000000 := by
  have h1 := cntL_le q m
  have h2 := cntL_nonneg q m
  have h12 := pow6 q h6
  omega
theorem of_impl (q : Nat) (h1 : 1 ≤ q) (h6 : q ≤ 6) (R : Int) : (0 ≤ R ∧ R < total q ∧ ∃ m, m < 10 ^ (2 * q) ∧ lky q m = true ∧ cntL q m = R ∧ Ev (fun k => impl_LuckyOfRank.f k ((2 * q : Nat) : Int) R) (mkT (2 * q) m, true)) ∨
    (¬ (0 ≤ R ∧ R < total q) ∧ Ev (fun k => impl_LuckyOfRank.f k ((2 * q : Nat) : Int) R) ((⟨#[]⟩ : ByteArray), false)) := by
  have ht := total_bd q h6
  have hw : wrap64 (total q - 1) = total q - 1 := wrap_of (by omega) (by omega)
  by_cases c : 0 ≤ R ∧ R < total q
  · have h00 : atRank q R 0 0 := by
      refine ⟨by decide, ?_, ?_⟩
      · rw [Nat.mul_zero]; simp only [cntL]; exact c.1
      · rw [Nat.sub_zero, Nat.zero_add, Nat.mul_one]; exact c.2
    obtain ⟨m, hm, e1⟩ := iof_l0 q h1 h6 R (2 * q) 0 0 (by omega) h00
    obtain ⟨g1, g2, g3⟩ := atRank_end hm
    rw [Nat.mul_zero] at e1
    simp only [cntL, Int.sub_zero] at e1
    refine .inl ⟨c.1, c.2, m, g1, g2, g3, ?_⟩
    unfold impl_LuckyOfRank.f
    refine ev_bind (isSize_eq _) (ev_pos (okSz_of q h1 h6) (Ev.bind (countLucky_ev q h1 h6) ?_))
    rw [hw]
    refine ev_bind (within_eq _ _ _) ?_
    rw [decide_eq_true (show 0 ≤ R ∧ R ≤ total q - 1 by omega)]
    refine ev_succ ?_
    simp only [impl_LuckyOfRank.j0]
    exact ev_neg (by decide) e1
  · refine .inr ⟨c, ?_⟩
    unfold impl_LuckyOfRank.f
    refine ev_bind (isSize_eq _) (ev_pos (okSz_of q h1 h6) (Ev.bind (countLucky_ev q h1 h6) ?_))
    rw [hw]
    refine ev_bind (within_eq _ _ _) ?_
    rw [decide_eq_false (show ¬ (0 ≤ R ∧ R ≤ total q - 1) by omega)]
    refine ev_succ ?_
    simp only [impl_LuckyOfRank.j0]
    exact ev_pos (by decide) (ev_eq fun _ => rfl)
/-- the last lucky one ahead of a ticket: a lucky one, or none -/
theorem last_impl (q m : Nat) (h1 : 1 ≤ q) (h6 : q ≤ 6) (hm : m < 10 ^ (2 * q)) : ∃ r, ((∃ x, x < m ∧ lky q x = true ∧ r = (mkT (2 * q) x, true)) ∨ r = ((⟨#[]⟩ : ByteArray), false)) ∧ Ev (fun k => impl_LastLucky.f k (mkT (2 * q) m)) r := by
  have hc := cnt12 q m h6 (Nat.le_of_lt hm)
  have hb := okTk_T q m h1 h6
  have hsz : (mkT (2 * q) m).size ≤ 1000000 := by rw [T_size]; omega
  have hw : wrap64 (cntL q m - 1) = cntL q m - 1 := wrap_of (by omega) (by omega)
  have imp : ∀ r, Ev (fun k => impl_LuckyOfRank.f k ((2 * q : Nat) : Int) (cntL q m - 1)) r → Ev (fun k => impl_LastLucky.f k (mkT (2 * q) m)) r := fun r e => by
    unfold impl_LastLucky.f
    refine Ev.bind (isTicket_ev _ hsz) (ev_pos hb (Ev.bind (irank_ev q m h1 h6 hm) ?_))
    rw [T_size, hw]
    exact Ev.bind e (ev_eq fun _ => rfl)
  rcases of_impl q h1 h6 (cntL q m - 1) with ⟨c1, c2, x, g1, g2, g3, e1⟩ | ⟨c, e1⟩
  · have hlt : x < m := cntL_lt_of (h := q) (by omega)
    exact ⟨_, .inl ⟨x, hlt, g2, rfl⟩, imp _ e1⟩
  · exact ⟨_, .inr rfl, imp _ e1⟩

theorem num_loop (n m : Nat) (hn : n ≤ 12) (hm : m < 10 ^ n) : ∀ d i : Nat, i + d = n → Ev (fun k => impl_numberOf.l0 k (mkT n m) ((m / 10 ^ (n - i) : Nat) : Int) (n : Int) (i : Int)) (m : Int) := by
  intro d
  induction d with
  | zero =>
    intro i hi
    obtain rfl : i = n := by omega
    refine ev_succ ?_
    simp only [impl_numberOf.l0]
    exact ev_neg (by omega) (ev_eq fun _ => by simp)
  | succ d ih =>
    intro i hi
    have hp := pre_lt n m i (by omega) hm
    have h12 : (10 : Nat) ^ i ≤ 10 ^ 12 := Nat.pow_le_pow_right (by decide) (by omega)
    have ht := Nat.mod_lt (m / 10 ^ (n - 1 - i)) (by decide : 0 < 10)
    have hn2 := ih (i + 1) (by omega)
    rw [pre_step n m i (by omega)] at hn2
    refine ev_succ ?_
    simp only [impl_numberOf.l0]
    rw [T_size, T_bt _ _ _ (by omega), wrap_nat (by omega)]
    generalize m / 10 ^ (n - i) = p at *
    generalize m / 10 ^ (n - 1 - i) % 10 = t at *
    rw [ show (48 + (t : Int) - 48) % 256 = (t : Int) by omega, wrap_of (x := 10 * (p : Int)) (by omega) (by omega), wrap_of (by omega) (by omega)]
    refine ev_pos (by omega) (ev_pos (by omega) (ev_pos (by omega) ?_))
    rw [show 10 * (p : Int) + (t : Int) = ((10 * p + t : Nat) : Int) by omega]
    exact hn2
theorem numberOf_T (n m : Nat) (hn : n ≤ 12) (hm : m < 10 ^ n) : Ev (fun k => impl_numberOf.f k (mkT n m)) (m : Int) := by
  unfold impl_numberOf.f
  rw [T_size]
  have := num_loop n m hn hm n 0 (by omega)
  rw [Nat.sub_zero, Nat.div_eq_of_lt hm] at this
  exact this
theorem enc_base (d : Nat) (hd : d < 10) : Utf8.encode (wrap32 (48 + (d : Int))) = strOfNums [48 + (d : Int)] := by
  have hw : wrap32 (48 + (d : Int)) = 48 + (d : Int) := by unfold wrap32; omega
  have hv : Utf8.valid (48 + (d : Int)) = true := by unfold Utf8.valid; simp; omega
  rw [hw, strOne _ (by omega) (by omega)]
  unfold Utf8.encode
  dsimp only
  rw [if_pos hv, if_pos (by omega)]

/-! ### halves, turned, exchanged and nines' tickets, over lists of digits -/
abbrev mkB (l : List UInt8) : ByteArray := ⟨l.toArray⟩
theorem okTk_parts {s : ByteArray} (h : okTk s = true) : (∀ b ∈ s.data.toList, 48 ≤ b.toNat ∧ b.toNat ≤ 57) ∧ 2 ≤ s.size ∧ s.size ≤ 12 ∧ s.size % 2 = 0 := by
  unfold okTk okSz at h
  rw [Bool.and_eq_true, List.all_eq_true] at h
  have h1 := of_decide_eq_true h.1
  refine ⟨fun b hb => ?_, by omega, by omega, by omega⟩
  have := h.2 b hb
  unfold isD at this
  exact of_decide_eq_true this
theorem okTk_mk {l : List UInt8} (h : ∀ b ∈ l, 48 ≤ b.toNat ∧ b.toNat ≤ 57) (h2 : 2 ≤ l.length) (h12 : l.length ≤ 12) (he : l.length % 2 = 0) : okTk (mkB l) = true := by
  unfold okTk okSz
  rw [Bool.and_eq_true, List.all_eq_true, mk_size, list_of]
  refine ⟨decide_eq_true (by omega), fun b hb => ?_⟩
  unfold isD
  exact decide_eq_true (h b hb)
theorem ok_size {s : ByteArray} (h : okTk s = true) : s.size ≤ 1000000 := by have := okTk_parts h; omega
def hA (s : ByteArray) : Int := lsum (s.data.toList.take (s.size / 2))
def hB (s : ByteArray) : Int := lsum (s.data.toList.drop (s.size / 2))
theorem half_w (s : ByteArray) (hs : s.size ≤ 1000000) : wrap64 ((s.size : Int) / 2) = ((s.size / 2 : Nat) : Int) := by rw [wrap_of (by omega) (by omega)]; omega
theorem ext_take (s : ByteArray) (i : Nat) (h : i ≤ s.size) : s.extract 0 i = mkB (s.data.toList.take i) := of_list (take_list s i h)
theorem ext_drop (s : ByteArray) (i : Nat) : s.extract i s.size = mkB (s.data.toList.drop i) := of_list (drop_list s i)
theorem halves_eq (s : ByteArray) (hs : s.size ≤ 1000000) : impl_halves.f s = some (mkB (s.data.toList.take (s.size / 2)), mkB (s.data.toList.drop (s.size / 2))) := by
  unfold impl_halves.f
  rw [half_w s hs, if_pos (by omega), if_pos (by omega), Int.toNat_natCast, ext_take s _ (by omega), ext_drop]
theorem isum_mk (l : List UInt8) (h : l.length ≤ 1000000) : Ev (fun k => impl_sumOf.f k (mkB l)) (lsum l) := by
  have := isumOf_ev (mkB l) (by rw [mk_size]; omega)
  rw [list_of] at this
  exact this
theorem ssum_mk (l : List UInt8) (h : l.length ≤ 1000000) : Ev (fun k => spec_tkSum.f k (mkB l)) (lsum l) := by
  have h := ssum_loop (mkB l) (by rw [mk_size]; omega) (mkB l).size 0 0 (by omega) (Int.le_refl 0) (by omega)
  simp only [List.drop_zero, Int.zero_add] at h
  exact h
theorem ihs_ev (s : ByteArray) (h : okTk s = true) : Ev (fun k => impl_HalfSums.f k s) (hA s, hB s, true) := by
  have hp := okTk_parts h
  have hl := size_len s
  unfold impl_HalfSums.f
  exact Ev.bind (isTicket_ev _ (ok_size h)) (ev_pos h (ev_bind (halves_eq s (ok_size h)) (Ev.bind (isum_mk _ (by rw [List.length_take]; omega)) (Ev.bind (isum_mk _ (by rw [List.length_drop]; omega)) (ev_eq fun _ => rfl)))))
theorem shalf_ev (s : ByteArray) (h : okTk s = true) : Ev (fun k => spec_tkHalves.f k s) (hA s, hB s) := by
  have hp := okTk_parts h
  have hl := size_len s
  unfold spec_tkHalves.f
  rw [half_w s (ok_size h), Int.toNat_natCast, ext_take s _ (by omega), ext_drop]
  exact ev_pos (by omega) (ev_pos (by omega) (Ev.bind (ssum_mk _ (by rw [List.length_take]; omega)) (Ev.bind (ssum_mk _ (by rw [List.length_drop]; omega)) (ev_eq fun _ => rfl))))
theorem shs_ev (s : ByteArray) (h : okTk s = true) : Ev (fun k => spec_HalfSums.f k s) (hA s, hB s, true) := by
  unfold spec_HalfSums.f
  exact Ev.bind (tkGood_ev _ (ok_size h)) (ev_pos h (Ev.bind (shalf_ev s h) (ev_eq fun _ => rfl)))
theorem il_ev (s : ByteArray) (h : okTk s = true) : Ev (fun k => impl_IsLucky.f k s) (decide (hA s = hB s), true) := by
  have hp := okTk_parts h
  have hl := size_len s
  unfold impl_IsLucky.f impl_isLucky.f
  exact Ev.bind (isTicket_ev _ (ok_size h)) (ev_pos h (Ev.bind (ev_bind (halves_eq s (ok_size h)) (Ev.bind (isum_mk _ (by rw [List.length_take]; omega)) (Ev.bind (isum_mk _ (by rw [List.length_drop]; omega)) (ev_eq fun _ => rfl)))) (ev_eq fun _ => rfl)))
theorem sl_ev (s : ByteArray) (h : okTk s = true) : Ev (fun k => spec_tkLucky.f k s) (decide (hA s = hB s)) := by
  unfold spec_tkLucky.f
  exact Ev.bind (shalf_ev s h) (ev_eq fun _ => rfl)
/-! turned -/
theorem son (l : List UInt8) : strOfNums (l.map fun b => (b.toNat : Int)) = mkB l := by
  unfold strOfNums mkB
  congr 2
  rw [List.map_map, show ((fun n : Int => UInt8.ofNat n.toNat) ∘ fun b : UInt8 => (b.toNat : Int)) = id from funext fun b => by simp, List.map_id]
theorem iturn_ev (s : ByteArray) (h : okTk s = true) : Ev (fun k => impl_TurnTicket.f k s) (mkB s.data.toList.reverse, true) := by
  have hz := ok_size h
  unfold impl_TurnTicket.f impl_turned.f
  refine Ev.bind (isTicket_ev _ (ok_size h)) (ev_pos h (ev_bind (if_pos (by omega)) (ev_eq fun _ => ?_)))
  unfold bytesOf
  rw [← List.map_reverse, son]
theorem sturn_loop (s : ByteArray) (hs : s.size ≤ 1000000) : ∀ d : Nat, d ≤ s.size → Ev (fun k => spec_TurnTicket.l0 k s (mkB (s.data.toList.drop d).reverse) ((d : Int) - 1)) (mkB s.data.toList.reverse, true) := by
  have hl := size_len s
  intro d
  induction d with
  | zero =>
    intro _
    refine ev_succ ?_
    simp only [spec_TurnTicket.l0]
    exact ev_neg (by omega) (ev_eq fun _ => rfl)
  | succ d ih =>
    intro hd
    have hlt : d < s.data.toList.length := by omega
    refine ev_succ ?_
    simp only [spec_TurnTicket.l0]
    have e0 : ((d + 1 : Nat) : Int) - 1 = (d : Int) := by omega
    have e1 : wrap64 ((d : Int) + 1) = ((d + 1 : Nat) : Int) := wrap_nat (by omega)
    have e2 : wrap64 ((d : Int) - 1) = (d : Int) - 1 := wrap_of (by omega) (by omega)
    rw [e0, e1, e2, Int.toNat_natCast, Int.toNat_natCast]
    have ex : s.extract d (d + 1) = mkB [s.data.toList[d]] := by
      refine of_list ?_
      rw [ext_list s d (d + 1) (by omega), List.take_succ_eq_append_getElem hlt, List.drop_append_of_le_length (by rw [List.length_take]; omega), List.drop_eq_nil_of_le (by rw [List.length_take]; omega)]; rfl
    rw [ex]
    refine ev_pos (by omega) (ev_pos (by omega) (ev_pos (by omega) (ev_pos (by omega) (ev_pos (by rw [mk_size, mk_size, List.length_reverse, List.length_drop]; simp; omega) ?_))))
    have ihh := ih (by omega)
    rw [mk_append]
    rw [List.drop_eq_getElem_cons hlt, List.reverse_cons] at ihh
    exact ihh
theorem sturn_ev (s : ByteArray) (h : okTk s = true) : Ev (fun k => spec_TurnTicket.f k s) (mkB s.data.toList.reverse, true) := by
  have hp := okTk_parts h
  have := sturn_loop s (ok_size h) s.size (Nat.le_refl _)
  rw [List.drop_eq_nil_of_le (by rw [size_len]; exact Nat.le_refl _)] at this
  unfold spec_TurnTicket.f
  rw [wrap_of (by omega) (by omega)]
  exact Ev.bind (tkGood_ev _ (ok_size h)) (ev_pos h this)
/-! exchanged -/
def swp (s : ByteArray) : ByteArray := mkB (s.data.toList.drop (s.size / 2) ++ s.data.toList.take (s.size / 2))
theorem iswap_ev (s : ByteArray) (h : okTk s = true) : Ev (fun k => impl_SwapHalves.f k s) (swp s, true) := by
  have hp := okTk_parts h
  have hl := size_len s
  unfold impl_SwapHalves.f
  refine Ev.bind (isTicket_ev _ (ok_size h)) (ev_pos h (ev_bind (halves_eq s (ok_size h)) (ev_pos (by show (mkB (s.data.toList.drop (s.size / 2))).size + (mkB (s.data.toList.take (s.size / 2))).size ≤ _; rw [mk_size (s.data.toList.drop (s.size / 2)), mk_size (s.data.toList.take (s.size / 2)), List.length_drop, List.length_take]; omega) (ev_eq fun _ => ?_))))
  rw [mk_append]; rfl
theorem sswap_ev (s : ByteArray) (h : okTk s = true) : Ev (fun k => spec_SwapHalves.f k s) (swp s, true) := by
  have hp := okTk_parts h
  have hl := size_len s
  unfold spec_SwapHalves.f
  rw [half_w s (ok_size h), Int.toNat_natCast, ext_take s _ (by omega), ext_drop]
  refine Ev.bind (tkGood_ev _ (ok_size h)) (ev_pos h (ev_pos (by omega) (ev_pos (by omega) (ev_pos (by show (mkB (s.data.toList.drop (s.size / 2))).size + (mkB (s.data.toList.take (s.size / 2))).size ≤ _; rw [mk_size (s.data.toList.drop (s.size / 2)), mk_size (s.data.toList.take (s.size / 2)), List.length_drop, List.length_take]; omega) (ev_eq fun _ => ?_)))))
  rw [mk_append]; rfl
/-! nines -/
def nine (b : UInt8) : UInt8 := UInt8.ofNat (105 - b.toNat)
theorem nine_nat {b : UInt8} (h : 48 ≤ b.toNat ∧ b.toNat ≤ 57) : (nine b).toNat = 105 - b.toNat := by unfold nine; rw [UInt8.toNat_ofNat']; omega
def nin (s : ByteArray) : ByteArray := mkB (s.data.toList.map nine)
theorem inine_loop (l : List UInt8) (h : ∀ b ∈ l, 48 ≤ b.toNat ∧ b.toNat ≤ 57) (hl : l.length ≤ 1000000) : ∀ d i : Nat, i + d = l.length →
    Ev (fun k => impl_NinesTicket.l0 k (((l.take i).map nine ++ l.drop i).map fun b => (b.toNat : Int)) (i : Int)) ((l.map nine).map fun b => (b.toNat : Int)) := by
  intro d
  induction d with
  | zero =>
    intro i hi
    refine ev_succ ?_
    simp only [impl_NinesTicket.l0]
    refine ev_neg (by simp; omega) (ev_eq fun _ => ?_)
    rw [List.take_of_length_le (by omega), List.drop_eq_nil_of_le (by omega), List.append_nil]
  | succ d ih =>
    intro i hi
    have hlt : i < l.length := by omega
    have hb := h l[i] (List.getElem_mem hlt)
    refine ev_succ ?_
    simp only [impl_NinesTicket.l0]
    have hlen : (((l.take i).map nine ++ l.drop i).map fun b => (b.toNat : Int)).length = l.length := by simp; omega
    have hrd : rd (((l.take i).map nine ++ l.drop i).map fun b => (b.toNat : Int)) (i : Int) = (l[i].toNat : Int) := by
      unfold rd
      rw [Int.toNat_natCast, List.getD_eq_getElem?_getD, List.getElem?_eq_getElem (by omega)]
      simp only [List.getElem_map, Option.getD_some]
      congr 2
      rw [List.getElem_append_right (by simp; omega)]
      simp [Nat.min_eq_left (Nat.le_of_lt hlt)]
    have hv : (105 - (l[i].toNat : Int)) % 256 = ((nine l[i]).toNat : Int) := by rw [nine_nat hb]; omega
    have hset : (((l.take i).map nine ++ l.drop i).map fun b => (b.toNat : Int)).set i ((nine l[i]).toNat : Int) = ((l.take (i + 1)).map nine ++ l.drop (i + 1)).map fun b => (b.toNat : Int) := by
      rw [List.drop_eq_getElem_cons hlt, List.take_succ_eq_append_getElem hlt]
      simp only [List.map_append, List.map_cons, List.map_nil]
      rw [List.set_append_right _ _ (by simp; omega)]
      simp [Nat.min_eq_left (Nat.le_of_lt hlt)]
    rw [hrd, hv, Int.toNat_natCast, hset, wrap_nat (by omega)]
    exact ev_pos (by omega) (ev_pos (by omega) (ih (i + 1) (by omega)))
theorem inine_ev (s : ByteArray) (h : okTk s = true) : Ev (fun k => impl_NinesTicket.f k s) (nin s, true) := by
  have hp := okTk_parts h
  have hl := size_len s
  have := inine_loop s.data.toList hp.1 (by omega) s.data.toList.length 0 (by omega)
  simp only [List.take_zero, List.map_nil, List.nil_append, List.drop_zero] at this
  unfold impl_NinesTicket.f
  refine Ev.bind (isTicket_ev _ (ok_size h)) (ev_pos h (ev_pos (by omega) (Ev.bind this (ev_eq fun _ => ?_))))
  rw [son]; rfl
theorem l1Num_dig (d : Nat) (hd : d < 10) : Ev (fun k => spec_l1Num.f k (d : Int)) (mkB [dch d]) := by
  have h := l1Num_ev d (by omega)
  rw [Lib.decDigits_one hd] at h
  exact h
theorem snine_loop (s : ByteArray) (hs : s.size ≤ 1000000) (h : ∀ b ∈ s.data.toList, 48 ≤ b.toNat ∧ b.toNat ≤ 57) : ∀ d i : Nat, i + d = s.size →
    Ev (fun k => spec_NinesTicket.l0 k s (mkB ((s.data.toList.take i).map nine)) (i : Int)) (nin s, true) := by
  have hl := size_len s
  intro d
  induction d with
  | zero =>
    intro i hi
    refine ev_succ ?_
    simp only [spec_NinesTicket.l0]
    refine ev_neg (by omega) (ev_eq fun _ => ?_)
    rw [List.take_of_length_le (by omega)]; rfl
  | succ d ih =>
    intro i hi
    have hlt : i < s.data.toList.length := by omega
    have hb := h s.data.toList[i] (List.getElem_mem hlt)
    refine ev_succ ?_
    simp only [spec_NinesTicket.l0]
    have e : 9 - ((bt s (i : Int) - 48) % 256) = ((57 - s.data.toList[i].toNat : Nat) : Int) := by rw [bt_get s i hlt]; omega
    have e2 : dch (57 - s.data.toList[i].toNat) = nine s.data.toList[i] := by unfold dch nine; congr 1; omega
    have hd := l1Num_dig (57 - s.data.toList[i].toNat) (by omega)
    rw [e2] at hd
    rw [e, wrap_nat (by omega)]
    refine ev_pos (by omega) (ev_pos (by omega) (Ev.bind hd (ev_pos (by rw [mk_size, mk_size]; simp; omega) ?_)))
    have ihh := ih (i + 1) (by omega)
    rw [List.take_succ_eq_append_getElem hlt, List.map_append, List.map_cons, List.map_nil] at ihh
    rw [mk_append]
    exact ihh
theorem snine_ev (s : ByteArray) (h : okTk s = true) : Ev (fun k => spec_NinesTicket.f k s) (nin s, true) := by
  have hp := okTk_parts h
  unfold spec_NinesTicket.f
  exact Ev.bind (tkGood_ev _ (ok_size h)) (ev_pos h (snine_loop s (ok_size h) hp.1 s.size 0 (by omega)))

/-! ### every second digit -/
def bv (l : List UInt8) (i : Nat) : Int := ((l.getD i 0).toNat : Int)
theorem bv_get (l : List UInt8) (i : Nat) (h : i < l.length) : bv l i = (l[i].toNat : Int) := by
  unfold bv; rw [List.getD_eq_getElem?_getD, List.getElem?_eq_getElem h]; rfl
def alt (l : List UInt8) : Nat → Int
  | 0 => 0
  | i + 1 => if i % 2 = 0 then alt l i + bv l i else alt l i - bv l i
theorem bv_bd (l : List UInt8) (i : Nat) : 0 ≤ bv l i ∧ bv l i ≤ 255 := by
  unfold bv; have := (l.getD i 0).toNat_lt; omega
theorem alt_bd (l : List UInt8) : ∀ i : Nat, -(255 * (i : Int)) ≤ alt l i ∧ alt l i ≤ 255 * i := by
  intro i
  induction i with
  | zero => simp [alt]
  | succ i ih =>
    have := bv_bd l i
    simp only [alt]
    split <;> omega
theorem ievery_loop (s : ByteArray) (hs : s.size ≤ 1000000) (hd : ∀ b ∈ s.data.toList, 48 ≤ b.toNat ∧ b.toNat ≤ 57) : ∀ (d i : Nat) (x y : Int), i + d = s.size → 0 ≤ x → x ≤ 9 * i → 0 ≤ y → y ≤ 9 * i → x - y = alt s.data.toList i - (if i % 2 = 0 then 0 else 48) →
    ∃ x' y', Ev (fun k => impl_IsEverySecond.l0 k s x y i) (x', y') ∧ x' - y' = alt s.data.toList s.size - (if s.size % 2 = 0 then 0 else 48) := by
  have hl := size_len s
  intro d
  induction d with
  | zero =>
    intro i x y hi _ _ _ _ he
    refine ⟨x, y, ev_succ ?_, ?_⟩
    · simp only [impl_IsEverySecond.l0]
      exact ev_neg (by omega) (ev_eq fun _ => rfl)
    · rw [show s.size = i by omega]; exact he
  | succ d ih =>
    intro i x y hi h0 h1 h2 h3 he
    have hlt : i < s.data.toList.length := by omega
    have hb := hd s.data.toList[i] (List.getElem_mem hlt)
    have hv := bv_get s.data.toList i hlt
    have e : (bt s (i : Int) - 48) % 256 = bv s.data.toList i - 48 := by rw [bt_get s i hlt, hv]; omega
    by_cases c : i % 2 = 0
    · rw [if_pos c] at he
      obtain ⟨x', y', h, hq⟩ := ih (i + 1) (x + (bv s.data.toList i - 48)) y (by omega) (by omega) (by omega) h2 (by omega) (by simp only [alt]; rw [if_pos c, if_neg (by omega)]; omega)
      refine ⟨x', y', ev_succ ?_, hq⟩
      simp only [impl_IsEverySecond.l0]
      rw [e, wrap_of (by omega) (by omega)]
      exact ev_pos (by omega) (ev_pos c h)
    · rw [if_neg c] at he
      obtain ⟨x', y', h, hq⟩ := ih (i + 1) x (y + (bv s.data.toList i - 48)) (by omega) h0 (by omega) (by omega) (by omega) (by simp only [alt]; rw [if_neg c, if_pos (by omega)]; omega)
      refine ⟨x', y', ev_succ ?_, hq⟩
      simp only [impl_IsEverySecond.l0]
      have e2 : wrap64 (y + (bv s.data.toList i - 48)) = y + (bv s.data.toList i - 48) := wrap_of (by omega) (by omega)
      rw [e, e2]
      exact ev_pos (by omega) (ev_neg c h)
def evry (s : ByteArray) : Bool := decide (alt s.data.toList s.size = 0)
theorem ievery_ev (s : ByteArray) (h : okTk s = true) : Ev (fun k => impl_IsEverySecond.f k s) (evry s, true) := by
  have hp := okTk_parts h
  obtain ⟨x, y, hv, he⟩ := ievery_loop s (ok_size h) hp.1 s.size 0 0 0 (by omega) (by omega) (by omega) (by omega) (by omega) (by simp [alt])
  rw [if_pos hp.2.2.2] at he
  unfold impl_IsEverySecond.f
  refine Ev.bind (isTicket_ev _ (ok_size h)) (ev_pos h (ev_pos (by omega) (Ev.bind hv (ev_eq fun _ => ?_))))
  unfold evry
  congr 2
  by_cases c : x = y
  · rw [decide_eq_true (by omega)]; simp [c]
  · rw [decide_eq_false (by omega)]; simp [c]
theorem severy_loop (s : ByteArray) (hs : s.size ≤ 1000000) (he : s.size % 2 = 0) : ∀ d i : Nat, i + 2 * d = s.size → Ev (fun k => spec_IsEverySecond.l0 k s (alt s.data.toList i) (i : Int)) (evry s, true) := by
  have hl := size_len s
  intro d
  induction d with
  | zero =>
    intro i hi
    refine ev_succ ?_
    simp only [spec_IsEverySecond.l0]
    refine ev_neg (by omega) (ev_eq fun _ => ?_)
    unfold evry
    rw [show s.size = i by omega]
    congr 2
  | succ d ih =>
    intro i hi
    have hlt : i < s.data.toList.length := by omega
    have hlt1 : i + 1 < s.data.toList.length := by omega
    have hv := bv_get s.data.toList i hlt
    have hv1 := bv_get s.data.toList (i + 1) hlt1
    have b0 := bv_bd s.data.toList i
    have b1 := bv_bd s.data.toList (i + 1)
    have hab := alt_bd s.data.toList i
    refine ev_succ ?_
    simp only [spec_IsEverySecond.l0]
    have e1 : wrap64 ((i : Int) + 1) = ((i + 1 : Nat) : Int) := wrap_nat (by omega)
    have e2 : wrap64 ((i : Int) + 2) = ((i + 2 : Nat) : Int) := by rw [wrap_of (by omega) (by omega)]; omega
    rw [e1, e2, bt_get s i hlt, bt_get s (i + 1) hlt1, ← hv, ← hv1]
    have e3 : wrap64 (alt s.data.toList i + wrap64 (wrap64 (bv s.data.toList i) - wrap64 (bv s.data.toList (i + 1)))) = alt s.data.toList (i + 2) := by
      rw [wrap_of (x := bv s.data.toList i) (by omega) (by omega), wrap_of (x := bv s.data.toList (i + 1)) (by omega) (by omega), wrap_of (x := bv s.data.toList i - bv s.data.toList (i + 1)) (by omega) (by omega), wrap_of (by omega) (by omega)]
      simp only [alt]
      rw [if_neg (by omega), if_pos (by omega)]; omega
    rw [e3]
    exact ev_pos (by omega) (ev_pos (by omega) (ev_pos (by omega) (ev_pos (by omega) (ih (i + 2) (by omega)))))
theorem severy_ev (s : ByteArray) (h : okTk s = true) : Ev (fun k => spec_IsEverySecond.f k s) (evry s, true) := by
  have hp := okTk_parts h
  unfold spec_IsEverySecond.f
  exact Ev.bind (tkGood_ev _ (ok_size h)) (ev_pos h (severy_loop s (ok_size h) hp.2.2.2 (s.size / 2) 0 (by omega)))

/-! ### the last digits that are lucky -/
theorem lsum_one (d : Nat) (h : d < 10) : lsum [dch d] = d := by simp only [lsum, dv_dch h]; omega
/-- a ticket's text without its last digit, and a digit -/
def wl1 (s : ByteArray) (d : Nat) : ByteArray := mkB (s.data.toList.take (s.size - 1) ++ [dch d])
theorem wl1_ok {s : ByteArray} (h : okTk s = true) (d : Nat) (hd : d < 10) : okTk (wl1 s d) = true := by
  have hp := okTk_parts h
  have hl := size_len s
  refine okTk_mk (fun b hb => ?_) ?_ ?_ ?_
  · rcases List.mem_append.mp hb with hb | hb
    · exact hp.1 b (List.mem_of_mem_take hb)
    · rw [List.mem_singleton.mp hb, dch_nat hd]; omega
  all_goals (simp only [List.length_append, List.length_take, List.length_cons, List.length_nil]; omega)
def hC (s : ByteArray) : Int := lsum ((s.data.toList.take (s.size - 1)).drop (s.size / 2))
theorem wl1_size (s : ByteArray) (d : Nat) (h : 1 ≤ s.size) : (wl1 s d).size = s.size := by
  unfold wl1
  rw [mk_size]
  simp only [List.length_append, List.length_take, List.length_cons, List.length_nil, size_len]; omega
theorem wl1_A {s : ByteArray} (h : okTk s = true) (d : Nat) : hA (wl1 s d) = hA s := by
  have hp := okTk_parts h
  have hl := size_len s
  unfold hA
  rw [wl1_size s d (by omega)]
  unfold wl1
  rw [list_of, List.take_append_of_le_length (by rw [List.length_take]; omega), List.take_take, Nat.min_eq_left (by omega)]
theorem wl1_B {s : ByteArray} (h : okTk s = true) (d : Nat) (hd : d < 10) : hB (wl1 s d) = hC s + d := by
  have hp := okTk_parts h
  have hl := size_len s
  unfold hB
  rw [wl1_size s d (by omega)]
  unfold wl1 hC
  rw [list_of, List.drop_append_of_le_length (by rw [List.length_take]; omega), lsum_append, lsum_one d hd]
def ldig (s : ByteArray) : List Int := if 0 ≤ hA s - hC s ∧ hA s - hC s ≤ 9 then [hA s - hC s] else []
theorem sums_bd (l : List UInt8) (h : l.length ≤ 1000000) : 0 ≤ lsum l ∧ lsum l ≤ 255000000 := by have := lsum_range l; omega
theorem hAC_bd {s : ByteArray} (h : okTk s = true) : (0 ≤ hA s ∧ hA s ≤ 255000000) ∧ 0 ≤ hC s ∧ hC s ≤ 255000000 := by
  have hp := okTk_parts h
  have hl := size_len s
  exact ⟨sums_bd _ (by rw [List.length_take]; omega), sums_bd _ (by rw [List.length_drop, List.length_take]; omega)⟩
theorem ildig_ev (s : ByteArray) (h : okTk s = true) : Ev (fun k => impl_LuckyDigits.f k s) (ldig s, true) := by
  have hp := okTk_parts h
  have hl := size_len s
  have hw := wl1_ok h 0 (by decide)
  have hb := hAC_bd h
  have hv := halves_eq (wl1 s 0) (ok_size hw)
  have hsz := wl1_size s 0 (by omega)
  have hll := size_len (wl1 s 0)
  have e0 : s.extract 0 (s.size - 1) = mkB (s.data.toList.take (s.size - 1)) := ext_take s _ (by omega)
  have e1 : mkB (s.data.toList.take (s.size - 1)) ++ (⟨#[48]⟩ : ByteArray) = wl1 s 0 := by
    rw [show (⟨#[48]⟩ : ByteArray) = ⟨[dch 0].toArray⟩ from rfl, mk_append]; rfl
  have ew : wrap64 ((s.size : Int) - 1) = ((s.size - 1 : Nat) : Int) := by rw [wrap_of (by omega) (by omega)]; omega
  unfold impl_LuckyDigits.f
  rw [ew, Int.toNat_natCast, e0, e1]
  refine Ev.bind (isTicket_ev _ (ok_size h)) (ev_pos h (ev_pos (by omega) (ev_pos (by omega) (ev_pos (by rw [mk_size (s.data.toList.take (s.size - 1)), List.length_take]; omega) (ev_bind hv ?_)))))
  have hA0 : lsum ((wl1 s 0).data.toList.take ((wl1 s 0).size / 2)) = hA s := wl1_A h 0
  have hB0 : lsum ((wl1 s 0).data.toList.drop ((wl1 s 0).size / 2)) = hC s := by have := wl1_B h 0 (by decide); unfold hB at this; rw [this]; omega
  have i1 := isum_mk ((wl1 s 0).data.toList.take ((wl1 s 0).size / 2)) (by rw [List.length_take]; omega)
  have i2 := isum_mk ((wl1 s 0).data.toList.drop ((wl1 s 0).size / 2)) (by rw [List.length_drop]; omega)
  rw [hA0] at i1
  rw [hB0] at i2
  refine Ev.bind i1 (Ev.bind i2 ?_)
  rw [wrap_of (by omega) (by omega)]
  refine ev_bind (within_eq _ _ _) ?_
  unfold ldig
  by_cases c : 0 ≤ hA s - hC s ∧ hA s - hC s ≤ 9
  · rw [decide_eq_true c, if_pos c]; exact ev_pos (by trivial) (ev_eq fun _ => rfl)
  · rw [decide_eq_false c, if_neg c]; exact ev_neg (by decide) (ev_eq fun _ => rfl)
/-- the digits below d that are -/
def ldl (s : ByteArray) (d : Nat) : List Int := if 0 ≤ hA s - hC s ∧ hA s - hC s < d then [hA s - hC s] else []
theorem sldig_loop (s : ByteArray) (h : okTk s = true) : ∀ e d : Nat, d + e = 10 → Ev (fun k => spec_LuckyDigits.l0 k s (ldl s d) (d : Int)) (ldig s, true) := by
  have hp := okTk_parts h
  have hl := size_len s
  have e0 : s.extract 0 (s.size - 1) = mkB (s.data.toList.take (s.size - 1)) := ext_take s _ (by omega)
  have ew : wrap64 ((s.size : Int) - 1) = ((s.size - 1 : Nat) : Int) := by rw [wrap_of (by omega) (by omega)]; omega
  intro e
  induction e with
  | zero =>
    intro d hd
    obtain rfl : d = 10 := by omega
    refine ev_succ ?_
    simp only [spec_LuckyDigits.l0]
    refine ev_neg (by omega) (ev_eq fun _ => ?_)
    unfold ldl ldig
    by_cases c : 0 ≤ hA s - hC s ∧ hA s - hC s ≤ 9
    · rw [if_pos c, if_pos (by omega)]
    · rw [if_neg c, if_neg (by omega)]
  | succ e ih =>
    intro d hd
    have hd10 : d < 10 := by omega
    have hw := wl1_ok h d hd10
    have e1 : mkB (s.data.toList.take (s.size - 1)) ++ mkB [dch d] = wl1 s d := by rw [mk_append]; rfl
    have hlen : (ldl s d).length ≤ 1 := by unfold ldl; split <;> simp
    refine ev_succ ?_
    simp only [spec_LuckyDigits.l0]
    rw [ew, Int.toNat_natCast, e0, wrap_nat (by omega)]
    refine ev_pos (by omega) (ev_pos (by omega) (ev_pos (by omega) (Ev.bind (l1Num_dig d hd10) (ev_pos (by rw [mk_size (s.data.toList.take (s.size - 1)), mk_size [dch d], List.length_take]; simp; omega) ?_))))
    rw [e1]
    refine Ev.bind (sl_ev (wl1 s d) hw) ?_
    rw [wl1_A h d, wl1_B h d hd10]
    have ihh := ih (d + 1) (by omega)
    by_cases c : hA s = hC s + d
    · have e2 : ldl s (d + 1) = ldl s d ++ [(d : Int)] := by
        unfold ldl
        rw [if_pos (by omega), if_neg (by omega)]
        simp only [List.nil_append]
        congr 1; omega
      rw [e2] at ihh
      exact ev_pos (decide_eq_true c) (ev_pos (by omega) ihh)
    · have e2 : ldl s (d + 1) = ldl s d := by
        unfold ldl
        by_cases c2 : 0 ≤ hA s - hC s ∧ hA s - hC s < d
        · rw [if_pos c2, if_pos (by omega)]
        · rw [if_neg c2, if_neg (by omega)]
      rw [e2] at ihh
      exact ev_neg (by rw [decide_eq_false c]; decide) ihh
theorem sldig_ev (s : ByteArray) (h : okTk s = true) : Ev (fun k => spec_LuckyDigits.f k s) (ldig s, true) := by
  unfold spec_LuckyDigits.f
  have := sldig_loop s h 10 0 (by omega)
  have e : ldl s 0 = [] := by unfold ldl; rw [if_neg (by omega)]
  rw [e] at this
  exact Ev.bind (tkGood_ev _ (ok_size h)) (ev_pos h this)

/-! ### the least text of a sum; first lucky ones -/
def lv : Nat → Nat → Nat
  | 0, _ => 0
  | k + 1, s => 10 * lv k (s - 9) + min s 9
def cl (s j : Nat) : Nat := min (s - 9 * j) 9
theorem lv_lt (k : Nat) : ∀ s, lv k s < 10 ^ k := by
  induction k with
  | zero => intro s; simp [lv]
  | succ k ih => intro s; simp only [lv]; have := ih (s - 9); rw [Nat.pow_succ]; omega
theorem lv_div (j : Nat) : ∀ n s, lv (n + j) s / 10 ^ j = lv n (s - 9 * j) := by
  induction j with
  | zero => intro n s; simp
  | succ j ih =>
    intro n s
    rw [Nat.pow_succ, Nat.mul_comm, ← Nat.div_div_eq_div_mul, show n + (j + 1) = (n + j) + 1 by omega]
    have e : lv (n + j + 1) s / 10 = lv (n + j) (s - 9) := by simp only [lv]; omega
    rw [e, ih]
    congr 1; omega
theorem lv_next (n s j : Nat) (h : j < n) : lv n s / 10 ^ j = 10 * (lv n s / 10 ^ (j + 1)) + cl s j := by
  obtain ⟨m, rfl⟩ : ∃ m, n = (m + 1) + j := ⟨n - 1 - j, by omega⟩
  rw [lv_div j (m + 1) s, show m + 1 + j = m + (j + 1) by omega, lv_div (j + 1) m s]
  simp only [lv, cl]
  rw [show s - 9 * j - 9 = s - 9 * (j + 1) by omega]
theorem ds_lv (k : Nat) : ∀ s : Nat, ds (lv k s) = ((min s (9 * k) : Nat) : Int) := by
  induction k with
  | zero => intro s; simp [lv, ds_small]
  | succ k ih => intro s; simp only [lv]; rw [ds_cons _ _ (by omega), ih]; omega
theorem lv_step (k : Nat) : ∀ t, t + 1 ≤ 9 * k → lv k t + 1 ≤ lv k (t + 1) := by
  induction k with
  | zero => intro t h; omega
  | succ k ih =>
    intro t h
    simp only [lv]
    by_cases c : t < 9
    · rw [show t - 9 = 0 by omega, show t + 1 - 9 = 0 by omega]; omega
    · have := ih (t - 9) (by omega)
      rw [show t + 1 - 9 = t - 9 + 1 by omega]; omega
theorem lv_mono (k t : Nat) : ∀ d, t + d ≤ 9 * k → lv k t + d ≤ lv k (t + d) := by
  intro d
  induction d with
  | zero => intro _; simp
  | succ d ih => intro h; have := ih (by omega); have := lv_step k (t + d) (by omega); rw [show t + (d + 1) = t + d + 1 by omega]; omega
theorem ds_le_self (n : Nat) : ds n ≤ n := by
  induction n using Nat.strongRecOn with
  | _ n ih =>
    by_cases c : n < 10
    · rw [ds_small c]; omega
    · rw [ds_step]; have := ih (n / 10) (by omega); omega
theorem lv_zero (k : Nat) : lv k 0 = 0 := by
  induction k with
  | zero => rfl
  | succ k ih => simp [lv, ih]
theorem lv_min (k : Nat) : ∀ n s : Nat, n < 10 ^ k → ds n = (s : Int) → lv k s ≤ n := by
  induction k with
  | zero => intro n s _ _; simp [lv]
  | succ k ih =>
    intro n s hn hd
    have ha : n / 10 < 10 ^ k := by rw [Nat.pow_succ] at hn; omega
    have h1 := ds_step n
    have h2 := ds_nonneg (n / 10)
    have h3 := ds_le k (n / 10) ha
    have h4 := ds_le_self (n / 10)
    have hi := ih (n / 10) (s - n % 10) ha (by omega)
    simp only [lv]
    by_cases c : s < 9
    · rw [show s - 9 = 0 by omega, lv_zero]; omega
    · by_cases c2 : n % 10 = 9
      · rw [c2] at hi; omega
      · have := lv_mono k (s - 9) (9 - n % 10) (by omega)
        rw [show s - 9 + (9 - n % 10) = s - n % 10 by omega] at this
        omega
theorem T_app (a x : Nat) : ∀ b y, y < 10 ^ b → pad a x ++ pad b y = pad (a + b) (x * 10 ^ b + y) := by
  intro b
  induction b with
  | zero => intro y h; have : y = 0 := by simpa using h
            subst this; simp [pad]
  | succ b ih =>
    intro y h
    have hy : y / 10 < 10 ^ b := by rw [Nat.pow_succ] at h; omega
    rw [← Nat.add_assoc]
    simp only [pad]
    rw [← List.append_assoc, ih _ hy]
    have e1 : (x * 10 ^ (b + 1) + y) / 10 = x * 10 ^ b + y / 10 := by rw [Nat.pow_succ, ← Nat.mul_assoc]; omega
    have e2 : (x * 10 ^ (b + 1) + y) % 10 = y % 10 := by rw [Nat.pow_succ, ← Nat.mul_assoc]; omega
    rw [e1, e2]
theorem tab_snoc (n : Nat) (f : Nat → Int) : tab (n + 1) f = tab n f ++ [f n] := by unfold tab; rw [List.range_succ]; simp
theorem least_list (n : Nat) : ∀ s, (tab n fun p => 48 + ((cl s (n - 1 - p) : Nat) : Int)) = (pad n (lv n s)).map fun b => (b.toNat : Int) := by
  induction n with
  | zero => intro s; rfl
  | succ n ih =>
    intro s
    rw [tab_snoc]
    simp only [pad, lv]
    rw [show (10 * lv n (s - 9) + min s 9) / 10 = lv n (s - 9) by omega, show (10 * lv n (s - 9) + min s 9) % 10 = min s 9 by omega, List.map_append, ← ih (s - 9)]
    congr 1
    · refine tab_congr (fun p hp => ?_)
      unfold cl
      omega
    · simp only [List.map_cons, List.map_nil]
      rw [dch_nat (by omega)]
      unfold cl
      congr 1; omega
theorem ileast_loop (n s : Nat) (hn : n ≤ 100) (hs : s ≤ 1000) : ∀ e j : Nat, j + e = n →
    Ev (fun k => impl_leastText.l0 k ((s - 9 * j : Nat) : Int) (tab n fun p => if n - j ≤ p then 48 + ((cl s (n - 1 - p) : Nat) : Int) else 0) ((n : Int) - 1 - j)) (mkT n (lv n s)) := by
  intro e
  induction e with
  | zero =>
    intro j hj
    refine ev_succ ?_
    simp only [impl_leastText.l0]
    refine ev_neg (by omega) (ev_eq fun _ => ?_)
    have e1 : (tab n fun p => if n - j ≤ p then 48 + ((cl s (n - 1 - p) : Nat) : Int) else 0) = tab n fun p => 48 + ((cl s (n - 1 - p) : Nat) : Int) := tab_congr (fun p _ => if_pos (by omega))
    rw [e1, least_list, son]
  | succ e ih =>
    intro j hj
    have hmn : mn ((s - 9 * j : Nat) : Int) 9 = ((cl s j : Nat) : Int) := by unfold mn cl; first | omega | (split <;> omega)
    have hc9 : cl s j ≤ 9 := by unfold cl; omega
    refine ev_succ ?_
    simp only [impl_leastText.l0]
    rw [hmn, tab_len, show ((n : Int) - 1 - j).toNat = n - 1 - j by omega, tab_set]
    have w1 : wrap64 (((s - 9 * j : Nat) : Int) - ((cl s j : Nat) : Int)) = ((s - 9 * (j + 1) : Nat) : Int) := by rw [wrap_of (by omega) (by omega)]; unfold cl; omega
    have w2 : wrap64 ((n : Int) - 1 - j - 1) = (n : Int) - 1 - ((j + 1 : Nat) : Int) := by rw [wrap_of (by omega) (by omega)]; omega
    have w3 : wrap64 (48 + ((cl s j : Nat) : Int)) % 256 = 48 + ((cl s j : Nat) : Int) := by rw [wrap_of (by omega) (by omega)]; omega
    have e2 : (tab n fun i => if i = n - 1 - j then wrap64 (48 + ((cl s j : Nat) : Int)) % 256 else if n - j ≤ i then 48 + ((cl s (n - 1 - i) : Nat) : Int) else 0) = tab n fun p => if n - (j + 1) ≤ p then 48 + ((cl s (n - 1 - p) : Nat) : Int) else 0 := by
      refine tab_congr (fun p hp => ?_)
      by_cases c : p = n - 1 - j
      · rw [if_pos c, if_pos (by omega), w3, show n - 1 - p = j by omega]
      · rw [if_neg c]
        by_cases c2 : n - j ≤ p
        · rw [if_pos c2, if_pos (by omega)]
        · rw [if_neg c2, if_neg (by omega)]
    rw [w1, w2, e2]
    exact ev_pos (by omega) (ev_pos (by omega) (ev_pos (by omega) (ih (j + 1) (by omega))))
theorem ileast_ev (n s : Nat) (hn : n ≤ 100) (hs : s ≤ 1000) : Ev (fun k => impl_leastText.f k (n : Int) (s : Int)) (mkT n (lv n s)) := by
  have := ileast_loop n s hn hs n 0 (by omega)
  have e1 : (tab n fun p => if n - 0 ≤ p then 48 + ((cl s (n - 1 - p) : Nat) : Int) else 0) = List.replicate n 0 := by rw [tab_zero]; exact tab_congr (fun p hp => if_neg (by omega))
  rw [e1, Nat.mul_zero, Nat.sub_zero] at this
  unfold impl_leastText.f
  rw [Int.toNat_natCast, wrap_of (by omega) (by omega)]
  refine ev_pos (by omega) (ev_pos (by omega) ?_)
  have e : (n : Int) - 1 - ((0 : Nat) : Int) = (n : Int) - 1 := by omega
  rw [e] at this
  exact this
theorem sleast_loop (n s : Nat) (hn : n ≤ 100) (hs : s ≤ 1000) : ∀ e : Nat, e ≤ n →
    Ev (fun k => spec_tkFirst.l0 k ((min s (9 * e) : Nat) : Int) (mkT (n - e) (lv n s / 10 ^ e)) ((e : Int) - 1)) (mkT n (lv n s)) := by
  intro e
  induction e with
  | zero =>
    intro _
    refine ev_succ ?_
    simp only [spec_tkFirst.l0]
    refine ev_neg (by omega) (ev_eq fun _ => ?_)
    simp
  | succ e ih =>
    intro he
    have hc9 : cl s e ≤ 9 := by unfold cl; omega
    have w0 : wrap64 (9 * ((e + 1 : Nat) - 1 : Int)) = 9 * e := by rw [wrap_of (by omega) (by omega)]; omega
    have w1 : wrap64 (((min s (9 * (e + 1)) : Nat) : Int) - wrap64 (9 * (((e + 1 : Nat) : Int) - 1))) = ((min s (9 * (e + 1)) : Nat) : Int) - 9 * e := by
      rw [show wrap64 (9 * (((e + 1 : Nat) : Int) - 1)) = 9 * e by rw [wrap_of (by omega) (by omega)]; omega, wrap_of (by omega) (by omega)]
    have hm : spec_l1Most.f 0 (((min s (9 * (e + 1)) : Nat) : Int) - 9 * e) = some ((cl s e : Nat) : Int) := by
      unfold spec_l1Most.f cl
      split <;> (congr 1; omega)
    have w2 : wrap64 (((min s (9 * (e + 1)) : Nat) : Int) - ((cl s e : Nat) : Int)) = ((min s (9 * e) : Nat) : Int) := by rw [wrap_of (by omega) (by omega)]; unfold cl; omega
    have w3 : wrap64 (((e + 1 : Nat) : Int) - 1 - 1) = (e : Int) - 1 := by rw [wrap_of (by omega) (by omega)]; omega
    refine ev_succ ?_
    simp only [spec_tkFirst.l0]
    rw [w1]
    refine ev_pos (by omega) (ev_bind hm (Ev.bind (l1Num_dig (cl s e) (by omega)) (ev_pos (by rw [T_size, mk_size [dch (cl s e)]]; simp; omega) ?_)))
    rw [w2, w3]
    have e1 : mkT (n - (e + 1)) (lv n s / 10 ^ (e + 1)) ++ mkB [dch (cl s e)] = mkT (n - e) (lv n s / 10 ^ e) := by
      rw [mk_append, lv_next n s e (by omega), show n - e = (n - (e + 1)) + 1 by omega]
      simp only [mkT, pad]
      rw [show (10 * (lv n s / 10 ^ (e + 1)) + cl s e) / 10 = lv n s / 10 ^ (e + 1) by omega, show (10 * (lv n s / 10 ^ (e + 1)) + cl s e) % 10 = cl s e by omega]
    rw [e1]
    exact ih (by omega)
theorem sleast_ev (n s : Nat) (hn : n ≤ 100) (hs : s ≤ 9 * n) : Ev (fun k => spec_tkFirst.f k (n : Int) (s : Int)) (mkT n (lv n s)) := by
  have := sleast_loop n s hn (by omega) n (Nat.le_refl _)
  rw [Nat.min_eq_left hs, Nat.sub_self, Nat.div_eq_of_lt (lv_lt n s)] at this
  unfold spec_tkFirst.f
  rw [wrap_of (by omega) (by omega)]
  exact this
/-- the first lucky ticket of a half's sum -/
def flT (q s : Nat) : ByteArray := mkT q (lv q s) ++ mkT q (lv q s)
theorem flT_num (q s : Nat) : flT q s = mkT (2 * q) (lv q s * 10 ^ q + lv q s) := by
  unfold flT
  rw [mk_append, T_app q (lv q s) q (lv q s) (lv_lt q s), show q + q = 2 * q by omega]
theorem nine_half (q : Nat) (h6 : q ≤ 6) : wrap64 (Int.tdiv (wrap64 (9 * ((2 * q : Nat) : Int))) 2) = ((9 * q : Nat) : Int) := by
  rw [wrap_of (x := 9 * ((2 * q : Nat) : Int)) (by omega) (by omega), Int.tdiv_eq_ediv_of_nonneg (by omega), wrap_of (by omega) (by omega)]; omega
def fstG (n s : Int) : ByteArray × Bool := if okSz n = true ∧ 0 ≤ s ∧ s ≤ 9 * (n / 2) then (flT (n / 2).toNat s.toNat, true) else ((⟨#[]⟩ : ByteArray), false)
theorem ifirst_ev (n s : Int) : Ev (fun k => impl_FirstLuckyOf.f k n s) (fstG n s) := by
  unfold impl_FirstLuckyOf.f fstG
  refine ev_bind (isSize_eq _) ?_
  by_cases c : okSz n = true
  · obtain ⟨q, h1, h6, rfl⟩ := okSz_half c
    rw [nine_half q h6, half_eq q h6]
    refine ev_pos c (ev_bind (within_eq _ _ _) ?_)
    by_cases c2 : 0 ≤ s ∧ s ≤ ((9 * q : Nat) : Int)
    · rw [decide_eq_true c2, if_pos ⟨c, c2.1, by omega⟩, show (((2 * q : Nat) : Int) / 2).toNat = q by omega]
      have := ileast_ev q s.toNat (by omega) (by omega)
      rw [Int.toNat_of_nonneg c2.1] at this
      exact ev_pos (by trivial) (Ev.bind this (ev_pos (by rw [T_size]; omega) (ev_eq fun _ => rfl)))
    · rw [decide_eq_false c2, if_neg (fun h => c2 ⟨h.2.1, by omega⟩)]
      exact ev_neg (by decide) (ev_eq fun _ => rfl)
  · rw [if_neg (fun h => c h.1)]
    exact ev_neg c (ev_eq fun _ => rfl)
theorem sfirst_ev (n s : Int) : Ev (fun k => spec_FirstLuckyOf.f k n s) (fstG n s) := by
  unfold spec_FirstLuckyOf.f fstG
  refine ev_bind (tkSize_eq _) ?_
  by_cases c : okSz n = true
  · obtain ⟨q, h1, h6, rfl⟩ := okSz_half c
    rw [nine_half q h6]
    refine ev_pos c (ev_bind (l1In_eq _ _ _) (ev_succ ?_))
    simp only [spec_FirstLuckyOf.j0]
    rw [half_eq q h6]
    by_cases c2 : 0 ≤ s ∧ s ≤ ((9 * q : Nat) : Int)
    · rw [decide_eq_true c2, if_pos ⟨c, c2.1, by omega⟩, show (((2 * q : Nat) : Int) / 2).toNat = q by omega]
      have := sleast_ev q s.toNat (by omega) (by omega)
      rw [Int.toNat_of_nonneg c2.1] at this
      exact ev_neg (by decide) (Ev.bind this (Ev.bind this (ev_pos (by rw [T_size]; omega) (ev_eq fun _ => rfl))))
    · rw [decide_eq_false c2, if_neg (fun h => c2 ⟨h.2.1, by omega⟩)]
      exact ev_pos (by decide) (ev_eq fun _ => rfl)
  · rw [if_neg (fun h => c h.1)]
    refine ev_neg c (ev_succ ?_)
    simp only [spec_FirstLuckyOf.j0]
    exact ev_pos (by trivial) (ev_eq fun _ => rfl)
theorem flT_ok (q s : Nat) (h1 : 1 ≤ q) (h6 : q ≤ 6) : okTk (flT q s) = true := by
  rw [flT_num]
  exact okTk_T q _ h1 h6
theorem flT_size (q s : Nat) : (flT q s).size = 2 * q := by rw [flT_num, T_size]
theorem flT_list (q s : Nat) : (flT q s).data.toList = pad q (lv q s) ++ pad q (lv q s) := by unfold flT; rw [mk_append, list_of]
theorem flT_A (q s : Nat) (hs : s ≤ 9 * q) : hA (flT q s) = s := by
  unfold hA
  rw [flT_size, flT_list, show 2 * q / 2 = q by omega, List.take_append_of_le_length (by rw [pad_length]; omega), List.take_of_length_le (by rw [pad_length]; omega), lsum_pad q _ (lv_lt q s), ds_lv]
  omega
theorem flT_B (q s : Nat) (hs : s ≤ 9 * q) : hB (flT q s) = s := by
  unfold hB
  rw [flT_size, flT_list, show 2 * q / 2 = q by omega, List.drop_append_of_le_length (by rw [pad_length]; omega), List.drop_eq_nil_of_le (by rw [pad_length]; omega), List.nil_append, lsum_pad q _ (lv_lt q s), ds_lv]
  omega
theorem T_A (q m : Nat) (hm : m < 10 ^ (2 * q)) : hA (mkT (2 * q) m) = ds (m / 10 ^ q) := by
  unfold hA
  rw [T_size, T_list, show 2 * q / 2 = q by omega]
  have := pad_take q q m
  rw [show q + q = 2 * q by omega] at this
  rw [this, lsum_pad q _ (by rw [Nat.div_lt_iff_lt_mul (p10n _), ← Nat.pow_add, show q + q = 2 * q by omega]; exact hm)]
/-- no lucky ticket of the sum lies ahead of the first one -/
theorem first_is (q s x : Nat) (hx : x < lv q s * 10 ^ q + lv q s) (hx2 : x < 10 ^ (2 * q)) (hl : lky q x = true) : ¬ ds (x / 10 ^ q) = (s : Int) := by
  intro h
  have hb1 : x / 10 ^ q < 10 ^ q := by rw [Nat.div_lt_iff_lt_mul (p10n _), ← Nat.pow_add, show q + q = 2 * q by omega]; exact hx2
  have hb2 : x % 10 ^ q < 10 ^ q := Nat.mod_lt _ (p10n _)
  have he : ds (x / 10 ^ q) = ds (x % 10 ^ q) := of_decide_eq_true hl
  have m1 := lv_min q _ s hb1 h
  have m2 := lv_min q _ s hb2 (he ▸ h)
  have hd := Nat.div_add_mod x (10 ^ q)
  have : lv q s * 10 ^ q ≤ x / 10 ^ q * 10 ^ q := Nat.mul_le_mul_right _ m1
  rw [Nat.mul_comm (x / 10 ^ q)] at this
  omega

/-! ### counts of tickets; tickets of numbers -/
theorem W_pos (q : Nat) : ∀ s : Int, 0 ≤ s → s ≤ 9 * q → 0 < W q s := by
  induction q with
  | zero => intro s h0 h1; simp only [W]; rw [if_pos (by omega)]; omega
  | succ k ih =>
    intro s h0 h1
    simp only [W]
    have n0 := W_nonneg k s
    have n1 := W_nonneg k (s - 1)
    have n2 := W_nonneg k (s - 2)
    have n3 := W_nonneg k (s - 3)
    have n4 := W_nonneg k (s - 4)
    have n5 := W_nonneg k (s - 5)
    have n6 := W_nonneg k (s - 6)
    have n7 := W_nonneg k (s - 7)
    have n8 := W_nonneg k (s - 8)
    have n9 := W_nonneg k (s - 9)
    have p := ih (9 * k) (by omega) (by omega)
    by_cases c : s ≤ 9 * k
    · have := ih s h0 c; omega
    · have e : s - 1 = 9 * k ∨ s - 2 = 9 * k ∨ s - 3 = 9 * k ∨ s - 4 = 9 * k ∨ s - 5 = 9 * k ∨ s - 6 = 9 * k ∨ s - 7 = 9 * k ∨ s - 8 = 9 * k ∨ s - 9 = 9 * k := by omega
      rcases e with e | e | e | e | e | e | e | e | e <;> (rw [← e] at p; omega)
def ctG (n a b : Int) : Int × Bool := if okSz n = true ∧ 0 ≤ a ∧ 0 ≤ b then (W (n / 2).toNat a * W (n / 2).toNat b, true) else (0, false)
theorem half_nat (q : Nat) : (((2 * q : Nat) : Int) / 2).toNat = q := by omega
theorem ct_bd (q : Nat) (h6 : q ≤ 6) (a b : Int) : -9223372036854775808 ≤ W q a * W q b ∧ W q a * W q b ≤ 9223372036854775807 := by
  have g1 := W6 q h6 a
  have g2 := W6 q h6 b
  have g3 := Int.mul_nonneg g1.1 g2.1
  have g4 : W q a * W q b ≤ 1000000 * 1000000 := Int.mul_le_mul g1.2 g2.2 g2.1 (by decide)
  omega
theorem ict_ev (n a b : Int) : Ev (fun k => impl_CountTickets.f k n a b) (ctG n a b) := by
  unfold impl_CountTickets.f ctG
  refine ev_bind (isSize_eq _) ?_
  by_cases c : okSz n = true
  · obtain ⟨q, h1, h6, rfl⟩ := okSz_half c
    rw [half_nat]
    refine ev_pos c ?_
    by_cases ca : a < 0
    · rw [if_neg (fun h => absurd h.2.1 (by omega))]
      refine ev_pos ca (ev_succ ?_)
      simp only [impl_CountTickets.j0]
      exact ev_pos (by trivial) (ev_eq fun _ => rfl)
    · refine ev_neg ca (ev_succ ?_)
      simp only [impl_CountTickets.j0]
      by_cases cb : b < 0
      · rw [if_neg (fun h => absurd h.2.2 (by omega))]
        exact ev_pos (decide_eq_true cb) (ev_eq fun _ => rfl)
      · rw [if_pos ⟨c, by omega, by omega⟩, half_eq q h6]
        refine ev_neg (by rw [decide_eq_false cb]; decide) (Ev.bind (iways_ev q (by omega)) (ev_bind (at_wl q (by omega) a) (ev_bind (at_wl q (by omega) b) (ev_eq fun _ => ?_))))
        rw [wrap_of (ct_bd q h6 a b).1 (ct_bd q h6 a b).2]
  · rw [if_neg (fun h => c h.1)]
    refine ev_neg c (ev_succ ?_)
    simp only [impl_CountTickets.j0]
    exact ev_pos (by trivial) (ev_eq fun _ => rfl)
theorem sct_ev (n a b : Int) : Ev (fun k => spec_CountTickets.f k n a b) (ctG n a b) := by
  unfold spec_CountTickets.f ctG
  refine ev_bind (tkSize_eq _) ?_
  by_cases c : okSz n = true
  · obtain ⟨q, h1, h6, rfl⟩ := okSz_half c
    rw [half_nat]
    refine ev_pos c ?_
    by_cases ca : a < 0
    · rw [if_neg (fun h => absurd h.2.1 (by omega))]
      refine ev_pos ca (ev_succ ?_)
      simp only [spec_CountTickets.j0]
      exact ev_pos (by trivial) (ev_eq fun _ => rfl)
    · refine ev_neg ca (ev_succ ?_)
      simp only [spec_CountTickets.j0]
      by_cases cb : b < 0
      · rw [if_neg (fun h => absurd h.2.2 (by omega))]
        exact ev_pos (decide_eq_true cb) (ev_eq fun _ => rfl)
      · rw [if_pos ⟨c, by omega, by omega⟩, half_eq q h6]
        refine ev_neg (by rw [decide_eq_false cb]; decide) (Ev.bind (sways_ev q (by omega)) (ev_bind (tkOf_wl q (by omega) a) (ev_bind (tkOf_wl q (by omega) b) (ev_eq fun _ => ?_))))
        rw [wrap_of (ct_bd q h6 a b).1 (ct_bd q h6 a b).2]
  · rw [if_neg (fun h => c h.1)]
    refine ev_neg c (ev_succ ?_)
    simp only [spec_CountTickets.j0]
    exact ev_pos (by trivial) (ev_eq fun _ => rfl)
theorem iclo_ev (n a : Int) : Ev (fun k => impl_CountLuckyOf.f k n a) (ctG n a a) := by
  unfold impl_CountLuckyOf.f
  exact Ev.bind (ict_ev n a a) (ev_eq fun _ => rfl)
theorem sclo_ev (n a : Int) : Ev (fun k => spec_CountLuckyOf.f k n a) (ctG n a a) := by
  unfold spec_CountLuckyOf.f ctG
  refine ev_bind (tkSize_eq _) ?_
  by_cases c : okSz n = true
  · obtain ⟨q, h1, h6, rfl⟩ := okSz_half c
    rw [half_nat]
    refine ev_pos c (ev_succ ?_)
    simp only [spec_CountLuckyOf.j0]
    by_cases ca : a < 0
    · rw [if_neg (fun h => absurd h.2.1 (by omega))]
      exact ev_pos (decide_eq_true ca) (ev_eq fun _ => rfl)
    · rw [if_pos ⟨c, by omega, by omega⟩, half_eq q h6]
      refine ev_neg (by rw [decide_eq_false ca]; decide) (Ev.bind (sways_ev q (by omega)) (ev_bind (tkOf_wl q (by omega) a) (ev_eq fun _ => ?_)))
      rw [wrap_of (ct_bd q h6 a a).1 (ct_bd q h6 a a).2]
  · rw [if_neg (fun h => c h.1)]
    refine ev_neg c (ev_succ ?_)
    simp only [spec_CountLuckyOf.j0]
    exact ev_pos (by trivial) (ev_eq fun _ => rfl)
theorem ct_sym (n a b : Int) : ctG n b a = ctG n a b := by
  unfold ctG
  by_cases c : okSz n = true ∧ 0 ≤ a ∧ 0 ≤ b
  · rw [if_pos c, if_pos ⟨c.1, c.2.2, c.2.1⟩, Int.mul_comm]
  · rw [if_neg c, if_neg (fun h => c ⟨h.1, h.2.2, h.2.1⟩)]
/-- the first one is where there is one -/
theorem first_count (n s : Int) : (fstG n s).2 = ((ctG n s s).2 && decide (0 < (ctG n s s).1)) := by
  unfold fstG ctG
  by_cases c : okSz n = true
  · obtain ⟨q, h1, h6, rfl⟩ := okSz_half c
    rw [half_nat]
    by_cases c0 : 0 ≤ s
    · rw [if_pos (show okSz ((2 * q : Nat) : Int) = true ∧ 0 ≤ s ∧ 0 ≤ s from ⟨c, c0, c0⟩)]
      by_cases c1 : s ≤ 9 * (((2 * q : Nat) : Int) / 2)
      · have h := W_pos q s c0 (by omega)
        rw [if_pos ⟨c, c0, c1⟩]
        simp only [Bool.true_and]
        exact (decide_eq_true (Int.mul_pos h h)).symm
      · rw [if_neg (fun h => c1 h.2.2), W_big q s (by omega)]
        simp
    · rw [if_neg (fun h => c0 h.2.1), if_neg (fun h => c0 h.2.1)]
      rfl
  · rw [if_neg (fun h => c h.1), if_neg (fun h => c h.1)]
    rfl
/-! tickets of numbers -/
def tnG (n x : Int) : ByteArray × Bool := if okSz n = true ∧ 0 ≤ x ∧ x.toNat < 10 ^ n.toNat then (mkT n.toNat x.toNat, true) else ((⟨#[]⟩ : ByteArray), false)
theorem itn_eq (n x : Int) (hx : x ≤ 4611686018427387904) : impl_TicketOfNumber.f n x = some (tnG n x) := by
  unfold impl_TicketOfNumber.f tnG
  rw [isSize_eq, Option.bind_some]
  by_cases c : okSz n = true
  · obtain ⟨q, h1, h6, rfl⟩ := okSz_half c
    rw [if_pos c, Int.toNat_natCast]
    by_cases c0 : x < 0
    · rw [if_pos c0, if_neg (fun h => absurd h.2.1 (by omega))]
    · rw [if_neg c0]
      obtain ⟨m, rfl⟩ : ∃ m : Nat, x = (m : Int) := ⟨x.toNat, by omega⟩
      rw [itoa_nat m (by omega), Option.bind_some, mk_size, Lib.decDigits_length, Int.toNat_natCast]
      by_cases c1 : m < 10 ^ (2 * q)
      · have hd := nDigits_le m (2 * q) (by omega) c1
        obtain ⟨K, hK⟩ := ipadded_ev m (2 * q) (by omega) c1 (by omega)
        have hK := hK K (Nat.le_refl _)
        dsimp only at hK
        rw [if_neg (by omega), hK, if_pos ⟨c, by omega, c1⟩]
        rfl
      · have hlt := Lib.lt_pow_nDigits m
        have : ¬ Lib.nDigits m ≤ 2 * q := fun h => c1 (Nat.lt_of_lt_of_le hlt (Nat.pow_le_pow_right (by decide) h))
        rw [if_pos (by omega), if_neg (fun h => c1 h.2.2)]
  · rw [if_neg c, if_neg (fun h => c h.1)]
theorem stn_loop (D m : Nat) (hD : D ≤ 12) (hm : m ≤ 4611686018427387904) : ∀ e k : Nat, k + e = D →
    Ev (fun g => spec_TicketOfNumber.l0 g (D : Int) ((m / 10 ^ k : Nat) : Int) (mkT k (m % 10 ^ k)) (k : Int)) (if m < 10 ^ D then (mkT D m, true) else ((⟨#[]⟩ : ByteArray), false)) := by
  intro e
  induction e with
  | zero =>
    intro k hk
    obtain rfl : k = D := by omega
    refine ev_succ ?_
    simp only [spec_TicketOfNumber.l0]
    by_cases c : m < 10 ^ k
    · rw [if_pos c, Nat.div_eq_of_lt c, Nat.mod_eq_of_lt c]
      exact ev_neg (by omega) (ev_neg (by omega) (ev_eq fun _ => rfl))
    · rw [if_neg c]
      have : 0 < m / 10 ^ k := Nat.div_pos (by omega) (p10n k)
      exact ev_neg (by omega) (ev_pos (by omega) (ev_eq fun _ => rfl))
  | succ e ih =>
    intro k hk
    have hmk : m / 10 ^ k ≤ m := Nat.div_le_self _ _
    have hmk2 : m / 10 ^ k ≤ 4611686018427387904 := Nat.le_trans hmk hm
    have hdQ : ∀ Q : Nat, Q ≤ 4611686018427387904 → Int.tmod (Q : Int) 10 = ((Q % 10 : Nat) : Int) := fun Q _ => by rw [Int.tmod_eq_emod_of_nonneg (by omega)]; omega
    have hqQ : ∀ Q : Nat, Q ≤ 4611686018427387904 → wrap64 (Int.tdiv (Q : Int) 10) = ((Q / 10 : Nat) : Int) := fun Q _ => by rw [Int.tdiv_eq_ediv_of_nonneg (by omega), wrap_of (by omega) (by omega)]; omega
    have hd := hdQ _ hmk2
    have hq := hqQ _ hmk2
    rw [Nat.div_div_eq_div_mul, ← Nat.pow_succ] at hq
    refine ev_succ ?_
    simp only [spec_TicketOfNumber.l0]
    rw [hd, hq, wrap_nat (by omega)]
    refine ev_pos (by omega) (Ev.bind (l1Num_dig (m / 10 ^ k % 10) (by omega)) (ev_pos (by rw [T_size, mk_size [dch (m / 10 ^ k % 10)]]; simp; omega) ?_))
    have e1 : mkB [dch (m / 10 ^ k % 10)] ++ mkT k (m % 10 ^ k) = mkT (k + 1) (m % 10 ^ (k + 1)) := by
      have h1 : [dch (m / 10 ^ k % 10)] = pad 1 (m / 10 ^ k % 10) := by simp [pad]
      have h2 : m % 10 ^ (k + 1) = m / 10 ^ k % 10 * 10 ^ k + m % 10 ^ k := by
        rw [Nat.pow_succ, Nat.mod_mul, Nat.mul_comm (10 ^ k)]; omega
      rw [mk_append, h1, T_app 1 _ k _ (Nat.mod_lt _ (p10n k)), h2, Nat.add_comm 1 k]
    rw [e1]
    exact ih (k + 1) (by omega)
theorem stn_ev (n x : Int) (hx : x ≤ 4611686018427387904) : Ev (fun k => spec_TicketOfNumber.f k n x) (tnG n x) := by
  unfold spec_TicketOfNumber.f tnG
  refine ev_bind (tkSize_eq _) ?_
  by_cases c : okSz n = true
  · obtain ⟨q, h1, h6, rfl⟩ := okSz_half c
    rw [Int.toNat_natCast]
    refine ev_pos c (ev_succ ?_)
    simp only [spec_TicketOfNumber.j0]
    by_cases c0 : x < 0
    · rw [if_neg (fun h => absurd h.2.1 (by omega))]
      exact ev_pos (decide_eq_true c0) (ev_eq fun _ => rfl)
    · obtain ⟨m, rfl⟩ : ∃ m : Nat, x = (m : Int) := ⟨x.toNat, by omega⟩
      have := stn_loop (2 * q) m (by omega) (by omega) (2 * q) 0 (by omega)
      rw [Nat.pow_zero, Nat.div_one, Nat.mod_one] at this
      rw [Int.toNat_natCast]
      refine ev_neg (by rw [decide_eq_false c0]; decide) ?_
      by_cases c1 : m < 10 ^ (2 * q)
      · rw [if_pos c1] at this; rw [if_pos ⟨c, by omega, c1⟩]; exact this
      · rw [if_neg c1] at this; rw [if_neg (fun h => c1 h.2.2)]; exact this
  · rw [if_neg (fun h => c h.1)]
    refine ev_neg c (ev_succ ?_)
    simp only [spec_TicketOfNumber.j0]
    exact ev_pos (by trivial) (ev_eq fun _ => rfl)

/-! ### choices out of bytes: each of them is made -/
def Bytes (l : List Int) : Prop := ∀ x ∈ l, (Lit.int .u8 x).wf = true
theorem byte_range {l : List Int} (h : Bytes l) {i : Int} (h0 : 0 ≤ i) (h1 : i < (l.length : Int)) : 0 ≤ rd l i ∧ rd l i ≤ 255 := by
  have hm : rd l i ∈ l := by
    unfold rd
    rw [List.getD_eq_getElem?_getD, List.getElem?_eq_getElem (by omega)]
    exact List.getElem_mem _
  have := h _ hm
  have h2 := by simpa only [Lit.wf, Bool.and_eq_true, decide_eq_true_eq] using this
  exact ⟨h2.1, h2.2⟩
theorem and255 (x : Int) (h0 : 0 ≤ x) (h1 : x < 18446744073709551616) : 0 ≤ Go.bits .and .u64 x 255 ∧ Go.bits .and .u64 x 255 ≤ 255 := by
  obtain ⟨n, rfl⟩ : ∃ n : Nat, x = (n : Int) := ⟨x.toNat, by omega⟩
  have h := bits_and_u64_nat n 255 (by omega) (by omega)
  have h2 := Nat.and_le_right (n := n) (m := 255)
  rw [show ((255 : Nat) : Int) = 255 from rfl] at h
  rw [h]
  omega
theorem u64_range (x : Int) : 0 ≤ IntKind.u64.wrap x ∧ IntKind.u64.wrap x < 18446744073709551616 := by
  rw [IntKind.wrap_u64]; omega
theorem tail255 (x : Int) : ∃ v, wrap64 (Go.bits .and .u64 (IntKind.u64.wrap x / 1099511627776) 255) = v ∧ 0 ≤ v ∧ v ≤ 255 := by
  have h := u64_range x
  have h2 := and255 (IntKind.u64.wrap x / 1099511627776) (by omega) (by omega)
  exact ⟨_, wrap_of (by omega) (by omega), h2.1, h2.2⟩
theorem next_ok (l : List Int) (hl : Bytes l) (a s : Int) (h0 : 0 ≤ a) (h1 : a ≤ 1000000000000) : ∃ v s', spec_l1Cur_next.f l a s = some (v, a + 1, s') ∧ 0 ≤ v ∧ v ≤ 255 := by
  unfold spec_l1Cur_next.f
  have hw : wrap64 (a + 1) = a + 1 := wrap_of (by omega) (by omega)
  rw [hw]
  by_cases c : a < (l.length : Int)
  · have hb := byte_range hl h0 c
    rw [if_pos c, if_pos h0, if_pos (by omega), wrap_of (x := rd l a) (by omega) (by omega)]
    exact ⟨_, _, rfl, hb.1, hb.2⟩
  · rw [if_neg c, if_neg (by omega)]
    obtain ⟨v, hv, g⟩ := tail255 (IntKind.u64.wrap (IntKind.u64.wrap (s * 6364136223846793005)) + 1442695040888963407)
    rw [hv]
    exact ⟨v, _, rfl, g.1, g.2⟩
theorem tmod_range {x n : Int} (h0 : 0 ≤ x) (hn : 0 < n) : 0 ≤ Int.tmod x n ∧ Int.tmod x n < n := by
  rw [Int.tmod_eq_emod_of_nonneg h0]
  exact ⟨Int.emod_nonneg _ (by omega), Int.emod_lt_of_pos _ hn⟩
theorem pick_ok (l : List Int) (hl : Bytes l) (a s n : Int) (h0 : 0 ≤ a) (h1 : a ≤ 900000000000) : ∃ v a' s', spec_l1Cur_pick.f l a s n = some (v, a', s') ∧ 0 ≤ v ∧ (v < n ∨ v = 0) ∧ a ≤ a' ∧ a' ≤ a + 2 := by
  unfold spec_l1Cur_pick.f
  by_cases c : n ≤ 1
  · rw [if_pos c]
    exact ⟨0, a, s, rfl, Int.le_refl 0, .inr rfl, Int.le_refl a, by omega⟩
  · rw [if_neg c]
    obtain ⟨v, s1, hv, v0, v1⟩ := next_ok l hl a s h0 (by omega)
    rw [hv]
    simp only [Option.bind_some]
    by_cases c2 : n > 200
    · rw [if_pos c2]
      obtain ⟨u, s2, hu, u0, u1⟩ := next_ok l hl (a + 1) s1 (by omega) (by omega)
      rw [hu]
      simp only [Option.bind_some]
      rw [if_neg (by omega), wrap_of (x := v * 256) (by omega) (by omega), wrap_of (x := v * 256 + u) (by omega) (by omega)]
      have ht := tmod_range (x := v * 256 + u) (n := n) (by omega) (by omega)
      exact ⟨_, _, _, rfl, ht.1, .inl ht.2, by omega, by omega⟩
    · rw [if_neg c2, if_neg (by omega)]
      have ht := tmod_range (x := v) (n := n) v0 (by omega)
      exact ⟨_, _, _, rfl, ht.1, .inl ht.2, by omega, by omega⟩
theorem among_ok (l : List Int) (hl : Bytes l) (a s : Int) (m : List Int) (hm : 0 < m.length) (h0 : 0 ≤ a) (h1 : a ≤ 900000000000) : ∃ v a' s', spec_l1Cur_among.f l a s m = some (v, a', s') ∧ v ∈ m ∧ a ≤ a' ∧ a' ≤ a + 2 := by
  unfold spec_l1Cur_among.f
  obtain ⟨v, a', s', hv, v0, v1, g⟩ := pick_ok l hl a s (m.length : Int) h0 h1
  rw [hv]
  simp only [Option.bind_some]
  have hlt : v < (m.length : Int) := by rcases v1 with h | h <;> omega
  rw [if_pos v0, if_pos hlt]
  refine ⟨_, a', s', rfl, ?_, g⟩
  unfold rd
  rw [List.getD_eq_getElem?_getD, List.getElem?_eq_getElem (by omega)]
  exact List.getElem_mem _

/-! ### tickets drawn -/
theorem one_ok (l : List Int) (hl : Bytes l) (a s n : Int) (h0 : 0 ≤ a) (h1 : a ≤ 900000000000) : ∃ v a' s', spec_l1Cur_one.f l a s n = some (v, a', s') ∧ a ≤ a' ∧ a' ≤ a + 2 := by
  unfold spec_l1Cur_one.f
  obtain ⟨v, a', s', hv, _, _, g⟩ := pick_ok l hl a s n h0 h1
  rw [hv]
  exact ⟨_, a', s', rfl, g⟩
theorem size_ok (l : List Int) (hl : Bytes l) (a s : Int) (h0 : 0 ≤ a) (h1 : a ≤ 800000000000) : ∃ v a' s', spec_l1Cur_size.f l a s = some (v, a', s') ∧ a ≤ a' ∧ a' ≤ a + 10 := by
  unfold spec_l1Cur_size.f
  obtain ⟨x, a1, s1, hx, g1, g2⟩ := one_ok l hl a s 14 h0 (by omega)
  rw [hx]
  simp only [Option.bind_some]
  by_cases c : x = true
  · rw [if_pos c]
    obtain ⟨y, a2, s2, hy, _, e1, e2⟩ := among_ok l hl a1 s1 [0, 1, 3, (-2), 12, 14, 4611686018427387904] (by decide) (by omega) (by omega)
    rw [hy]
    exact ⟨_, a2, s2, rfl, by omega, by omega⟩
  · rw [if_neg c]
    obtain ⟨y, a2, s2, hy, _, e1, e2⟩ := among_ok l hl a1 s1 [2, 4, 6, 4, 6, 8] (by decide) (by omega) (by omega)
    rw [hy]
    exact ⟨_, a2, s2, rfl, by omega, by omega⟩
theorem sure_loop (l : List Int) (hl : Bytes l) (n : Nat) (hn : n ≤ 100) : ∀ (d i : Nat) (t : ByteArray) (a s : Int), i + d = n → t.size = i → 0 ≤ a → a + 2 * d ≤ 800000000300 → ∃ v a' s', Ev (fun k => spec_l1Cur_sureTicket.l0 k (n : Int) t (i : Int) l a s) (v, a', s') ∧ v.size = n ∧ a ≤ a' ∧ a' ≤ a + 2 * d := by
  intro d
  induction d with
  | zero =>
    intro i t a s hi ht h0 h1
    refine ⟨t, a, s, ev_succ ?_, by omega, Int.le_refl _, by omega⟩
    simp only [spec_l1Cur_sureTicket.l0]
    exact ev_neg (by omega) (ev_eq fun _ => rfl)
  | succ d ih =>
    intro i t a s hi ht h0 h1
    obtain ⟨x, a1, s1, hx, x0, x1, g1, g2⟩ := pick_ok l hl a s 10 h0 (by omega)
    obtain ⟨m, rfl⟩ : ∃ m : Nat, x = (m : Int) := ⟨x.toNat, by omega⟩
    have hm := l1Num_ev m (by omega)
    rw [Lib.decDigits_one (by omega)] at hm
    have hsz : (t ++ (⟨[UInt8.ofNat (48 + m)].toArray⟩ : ByteArray)).size = i + 1 := by rw [ByteArray.size_append, mk_size [UInt8.ofNat (48 + m)], ht]; rfl
    obtain ⟨v, a2, s2, hv, hz, e1, e2⟩ := ih (i + 1) (t ++ (⟨[UInt8.ofNat (48 + m)].toArray⟩ : ByteArray)) a1 s1 (by omega) hsz (by omega) (by omega)
    refine ⟨v, a2, s2, ev_succ ?_, hz, by omega, by omega⟩
    simp only [spec_l1Cur_sureTicket.l0]
    rw [wrap_nat (by omega)]
    exact ev_pos (by omega) (ev_bind hx (Ev.bind hm (ev_pos (by rw [mk_size [UInt8.ofNat (48 + m)], ht]; simp; omega) hv)))
theorem sure_ok (l : List Int) (hl : Bytes l) (a s : Int) (n : Nat) (hn : n ≤ 100) (h0 : 0 ≤ a) (h1 : a ≤ 800000000000) : ∃ v a' s', Ev (fun k => spec_l1Cur_sureTicket.f k l a s (n : Int)) (v, a', s') ∧ v.size = n ∧ a ≤ a' ∧ a' ≤ a + 200 := by
  obtain ⟨v, a', s', h, hz, e1, e2⟩ := sure_loop l hl n hn n 0 (⟨#[]⟩ : ByteArray) a s (by omega) rfl h0 (by omega)
  refine ⟨v, a', s', ?_, hz, e1, by omega⟩
  unfold spec_l1Cur_sureTicket.f
  exact h
theorem of_ok (l : List Int) (hl : Bytes l) (a s : Int) (m : List ByteArray) (hm : 0 < m.length) (h0 : 0 ≤ a) (h1 : a ≤ 900000000000) : ∃ v a' s', spec_l1Cur_of.f l a s m = some (v, a', s') ∧ v ∈ m ∧ a ≤ a' ∧ a' ≤ a + 2 := by
  unfold spec_l1Cur_of.f
  obtain ⟨v, a', s', hv, v0, v1, g⟩ := pick_ok l hl a s (m.length : Int) h0 h1
  rw [hv]
  simp only [Option.bind_some]
  have hlt : v < (m.length : Int) := by rcases v1 with h | h <;> omega
  rw [if_pos v0, if_pos hlt]
  refine ⟨_, a', s', rfl, ?_, g⟩
  unfold rdOf
  rw [List.getD_eq_getElem?_getD, List.getElem?_eq_getElem (by omega)]
  exact List.getElem_mem _
theorem turn_loop (l : List Int) (h : ByteArray) (hh : h.size ≤ 100) (a s : Int) : ∀ (d : Nat) (t : ByteArray), d ≤ h.size → t.size + d = h.size → ∃ v, Ev (fun k => spec_l1Cur_ticket.l0 k h t ((d : Int) - 1) l a s) (v, a, s) ∧ v.size = 2 * h.size := by
  intro d
  induction d with
  | zero =>
    intro t _ ht
    refine ⟨h ++ t, ev_succ ?_, by rw [ByteArray.size_append]; omega⟩
    simp only [spec_l1Cur_ticket.l0]
    exact ev_neg (by omega) (ev_pos (by omega) (ev_eq fun _ => rfl))
  | succ d ih =>
    intro t hd ht
    have hx : (h.extract d (d + 1)).size = 1 := by rw [ByteArray.size_extract]; omega
    obtain ⟨v, hv, hz⟩ := ih (t ++ h.extract d (d + 1)) (by omega) (by rw [ByteArray.size_append, hx]; omega)
    refine ⟨v, ev_succ ?_, hz⟩
    simp only [spec_l1Cur_ticket.l0]
    rw [show ((d + 1 : Nat) : Int) - 1 = (d : Int) by omega, wrap_nat (by omega), wrap_of (x := (d : Int) - 1) (by omega) (by omega), Int.toNat_natCast, Int.toNat_natCast]
    exact ev_pos (by omega) (ev_pos (by omega) (ev_pos (by omega) (ev_pos (by omega) (ev_pos (by rw [hx]; omega) hv))))
theorem ticket_j (l : List Int) (hl : Bytes l) (b : Bool) (a s : Int) (h0 : 0 ≤ a) (h1 : a ≤ 700000000000) : ∃ v a' s', Ev (fun k => spec_l1Cur_ticket.j0 k b l a s) (v, a', s') ∧ v.size ≤ 20 ∧ a ≤ a' ∧ a' ≤ a + 300 := by
  cases b with
  | true =>
    obtain ⟨x, a1, s1, hx, x0, x1, g1, g2⟩ := pick_ok l hl a s 3 h0 (by omega)
    obtain ⟨m, rfl⟩ : ∃ m : Nat, x = (m : Int) := ⟨x.toNat, by omega⟩
    obtain ⟨h, a2, s2, hs, hz, e1, e2⟩ := sure_ok l hl a1 s1 (1 + m) (by omega) (by omega) (by omega)
    obtain ⟨v, hv, hz2⟩ := turn_loop l h (by omega) a2 s2 h.size (⟨#[]⟩ : ByteArray) (Nat.le_refl _) (by show 0 + h.size = h.size; omega)
    refine ⟨v, a2, s2, ev_succ ?_, by omega, by omega, by omega⟩
    simp only [spec_l1Cur_ticket.j0]
    refine ev_pos trivial (ev_bind hx ?_)
    rw [show wrap64 (1 + (m : Int)) = ((1 + m : Nat) : Int) by rw [wrap_of (by omega) (by omega)]; omega]
    refine Ev.bind hs ?_
    rw [wrap_of (x := (h.size : Int) - 1) (by omega) (by omega)]
    exact hv
  | false =>
    obtain ⟨y, a1, s1, hy, hm, g1, g2⟩ := among_ok l hl a s [2, 4, 6, 4, 6, 8] (by decide) h0 (by omega)
    obtain ⟨m, rfl, hm8⟩ : ∃ m : Nat, y = (m : Int) ∧ m ≤ 8 := by
      simp only [List.mem_cons, List.not_mem_nil, or_false] at hm
      exact ⟨y.toNat, by omega, by omega⟩
    obtain ⟨v, a2, s2, hs, hz, e1, e2⟩ := sure_ok l hl a1 s1 m (by omega) (by omega) (by omega)
    refine ⟨v, a2, s2, ev_succ ?_, by omega, by omega, by omega⟩
    simp only [spec_l1Cur_ticket.j0]
    exact ev_neg (by decide) (ev_bind hy (Ev.bind hs (ev_eq fun _ => rfl)))
theorem ticket_ok (l : List Int) (hl : Bytes l) (a s : Int) (h0 : 0 ≤ a) (h1 : a ≤ 600000000000) : ∃ v a' s', Ev (fun k => spec_l1Cur_ticket.f k l a s) (v, a', s') ∧ v.size ≤ 20 ∧ a ≤ a' ∧ a' ≤ a + 400 := by
  obtain ⟨x, a1, s1, hx, _, _, g1, g2⟩ := pick_ok l hl a s 16 h0 (by omega)
  unfold spec_l1Cur_ticket.f
  by_cases c : x = 0
  · obtain ⟨v, a2, s2, hv, hm, e1, e2⟩ := of_ok l hl a1 s1 [(⟨#[]⟩ : ByteArray), (⟨#[49]⟩ : ByteArray), (⟨#[49, 50, 120, 52]⟩ : ByteArray), (⟨#[49, 50, 51]⟩ : ByteArray), (⟨#[48, 48, 48, 48, 48, 48, 48, 48, 48, 48, 48, 48, 48]⟩ : ByteArray), (⟨#[57, 57, 57, 57, 57, 57, 57, 57, 57, 57, 57, 57]⟩ : ByteArray), (⟨#[48, 48, 48, 48, 48, 48, 48, 48, 48, 48, 48, 48, 48, 48]⟩ : ByteArray)] (by decide) (by omega) (by omega)
    refine ⟨v, a2, s2, ev_bind hx (ev_pos c (ev_bind hv (ev_eq fun _ => rfl))), ?_, by omega, by omega⟩
    simp only [List.mem_cons, List.not_mem_nil, or_false] at hm
    rcases hm with rfl | rfl | rfl | rfl | rfl | rfl | rfl <;> decide
  by_cases c1 : x = 1
  · obtain ⟨v, a2, s2, hv, hm, e1, e2⟩ := of_ok l hl a1 s1 [(⟨#[48, 48, 48, 48, 48, 48]⟩ : ByteArray), (⟨#[57, 57, 57, 57, 57, 57]⟩ : ByteArray), (⟨#[48, 48, 48, 48]⟩ : ByteArray), (⟨#[57, 57, 57, 57]⟩ : ByteArray), (⟨#[48, 48]⟩ : ByteArray), (⟨#[57, 57]⟩ : ByteArray), (⟨#[57, 57, 57, 48]⟩ : ByteArray), (⟨#[48, 48, 48, 48, 48, 49]⟩ : ByteArray)] (by decide) (by omega) (by omega)
    refine ⟨v, a2, s2, ev_bind hx (ev_neg c (ev_pos c1 (ev_bind hv (ev_eq fun _ => rfl)))), ?_, by omega, by omega⟩
    simp only [List.mem_cons, List.not_mem_nil, or_false] at hm
    rcases hm with rfl | rfl | rfl | rfl | rfl | rfl | rfl | rfl <;> decide
  by_cases c2 : x = 2
  · obtain ⟨v, a2, s2, hv, hz, e1, e2⟩ := ticket_j l hl (x == 2) a1 s1 (by omega) (by omega)
    exact ⟨v, a2, s2, ev_bind hx (ev_neg c (ev_neg c1 (ev_pos c2 hv))), hz, by omega, by omega⟩
  by_cases c3 : x = 3
  · obtain ⟨v, a2, s2, hv, hz, e1, e2⟩ := ticket_j l hl (x == 3) a1 s1 (by omega) (by omega)
    exact ⟨v, a2, s2, ev_bind hx (ev_neg c (ev_neg c1 (ev_neg c2 (ev_pos c3 hv)))), hz, by omega, by omega⟩
  · obtain ⟨v, a2, s2, hv, hz, e1, e2⟩ := ticket_j l hl (x == 4) a1 s1 (by omega) (by omega)
    exact ⟨v, a2, s2, ev_bind hx (ev_neg c (ev_neg c1 (ev_neg c2 (ev_neg c3 hv)))), hz, by omega, by omega⟩

/-! ### draws -/
theorem drawHalf_ok (l : List Int) (hl : Bytes l) : ∃ v, Ev (fun k => spec_DrawHalfSums.f k l) v ∧ v.size ≤ 20 := by
  obtain ⟨v, a, s, h, hz, _, _⟩ := ticket_ok l hl 0 0 (by omega) (by omega)
  unfold spec_DrawHalfSums.f spec_DrawIsTicket.f
  exact ⟨v, Ev.bind (Ev.bind h (ev_eq fun _ => rfl)) (ev_eq fun _ => rfl), hz⟩
theorem drawFirst_ok (l : List Int) (hl : Bytes l) : ∃ v w, spec_DrawFirstLuckyOf.f l = some (v, w) := by
  obtain ⟨v, a, s, h, g1, g2⟩ := size_ok l hl 0 0 (by omega) (by omega)
  obtain ⟨y, a2, s2, hy, _, _, _⟩ := among_ok l hl a s [0, 1, 3, 9, 13, 18, 27, 36, 54, 55, (-1), 4611686018427387904] (by decide) (by omega) (by omega)
  unfold spec_DrawFirstLuckyOf.f spec_DrawCountLuckyOf.f
  rw [h]
  simp only [Option.bind_some]
  rw [hy]
  exact ⟨_, _, rfl⟩
theorem drawTickets_ok (l : List Int) (hl : Bytes l) : ∃ v w x, spec_DrawCountTickets.f l = some (v, w, x) := by
  obtain ⟨v, a, s, h, g1, g2⟩ := size_ok l hl 0 0 (by omega) (by omega)
  obtain ⟨y, a2, s2, hy, _, _, _⟩ := among_ok l hl a s [0, 1, 3, 9, 13, 18, 27, (-1), 4611686018427387904] (by decide) (by omega) (by omega)
  obtain ⟨z, a3, s3, hz, _, _, _⟩ := among_ok l hl a2 s2 [0, 1, 3, 9, 13, 18, 27, (-1), 4611686018427387904] (by decide) (by omega) (by omega)
  unfold spec_DrawCountTickets.f
  rw [h]
  simp only [Option.bind_some]
  rw [hy]
  simp only [Option.bind_some]
  rw [hz]
  exact ⟨_, _, _, rfl⟩
theorem drawNumber_ok (l : List Int) (hl : Bytes l) : ∃ v w, spec_DrawTicketOfNumber.f l = some (v, w) ∧ w ≤ 4611686018427387904 := by
  obtain ⟨v, a, s, h, g1, g2⟩ := size_ok l hl 0 0 (by omega) (by omega)
  obtain ⟨y, a2, s2, hy, hm, _, _⟩ := among_ok l hl a s [0, 7, 99, 100, 1234, 9999, 123321, 999999, 4611686018427387904, (-1)] (by decide) (by omega) (by omega)
  unfold spec_DrawTicketOfNumber.f
  rw [h]
  simp only [Option.bind_some]
  rw [hy]
  refine ⟨_, _, rfl, ?_⟩
  simp only [List.mem_cons, List.not_mem_nil, or_false] at hm
  show y ≤ _
  omega

/-! ### the law -/
theorem nmI_ev (n x : Int) (h : (tnG n x).2 = true) : Ev (fun k => impl_NumberOfTicket.f k (tnG n x).1) (x, true) ∧ ((tnG n x).1.size : Int) = n := by
  unfold tnG at h ⊢
  by_cases c : okSz n = true ∧ 0 ≤ x ∧ x.toNat < 10 ^ n.toNat
  · rw [if_pos c]
    obtain ⟨q, h1, h6, rfl⟩ := okSz_half c.1
    rw [Int.toNat_natCast] at c ⊢
    refine ⟨?_, ?_⟩
    · unfold impl_NumberOfTicket.f
      have hn := numberOf_T (2 * q) x.toNat (by omega) c.2.2
      rw [Int.toNat_of_nonneg c.2.1] at hn
      exact Ev.bind (isTicket_ev _ (by rw [T_size]; omega)) (ev_pos (okTk_T q _ h1 h6) (Ev.bind hn (ev_eq fun _ => rfl)))
    · rw [T_size]
  · rw [if_neg c] at h; cases h
theorem j5_ev (m p q k n : Int) : Ev (fun g => laws_FnTicketsTurned.j5 g m p q (ctG m p q).1 (ctG m p q).2 k n (tnG k n).1 (tnG k n).2) true := by
  refine ev_succ ?_
  simp only [laws_FnTicketsTurned.j5]
  have fin : Ev (fun g => if (tnG k n).2 = true then ((impl_NumberOfTicket.f g (tnG k n).1).bind fun bt454 => (if bt454.2 = true then (if bt454.1 = n then (some (((tnG k n).1.size : Int) == k)) else (some false)) else (some false))) else (some true)) true := by
    by_cases c : (tnG k n).2 = true
    · obtain ⟨e1, e2⟩ := nmI_ev k n c
      exact ev_pos c (Ev.bind e1 (ev_pos rfl (ev_pos rfl (ev_eq fun _ => by rw [e2]; simp))))
    · exact ev_neg c (ev_eq fun _ => rfl)
  by_cases c : (ctG m p q).2 = true
  · have e := ict_ev m q p
    rw [ct_sym m p q] at e
    exact ev_pos c (Ev.bind e (ev_pos c (ev_pos rfl fin)))
  · exact ev_neg c fin
theorem j4_ev (n s m p q k x : Int) : Ev (fun g => laws_FnTicketsTurned.j4 g n s (fstG n s).1 (fstG n s).2 m p q (ctG m p q).1 (ctG m p q).2 k x (tnG k x).1 (tnG k x).2 false) true := by
  refine ev_succ ?_
  simp only [laws_FnTicketsTurned.j4]
  refine ev_neg (by decide) ?_
  by_cases c : okSz n = true ∧ 0 ≤ s ∧ s ≤ 9 * (n / 2)
  · have e : fstG n s = (flT (n / 2).toNat s.toNat, true) := by unfold fstG; rw [if_pos c]
    rw [e]
    obtain ⟨Q, h1, h6, rfl⟩ := okSz_half c.1
    rw [half_nat]
    have hs : s.toNat ≤ 9 * Q := by omega
    have hsS : ((s.toNat : Nat) : Int) = s := Int.toNat_of_nonneg c.2.1
    have hok := flT_ok Q s.toNat h1 h6
    have hh := ihs_ev _ hok
    rw [flT_A Q _ hs, flT_B Q _ hs, hsS] at hh
    have hM : lv Q s.toNat * 10 ^ Q + lv Q s.toNat < 10 ^ (2 * Q) := by
      have := lv_lt Q s.toNat
      have h2 : 10 ^ (2 * Q) = 10 ^ Q * 10 ^ Q := by rw [← Nat.pow_add]; congr 1; omega
      have h3 : lv Q s.toNat * 10 ^ Q + 10 ^ Q ≤ 10 ^ Q * 10 ^ Q := by rw [← Nat.succ_mul]; exact Nat.mul_le_mul_right _ this
      omega
    obtain ⟨r, hr, hl⟩ := last_impl Q _ h1 h6 hM
    rw [← flT_num] at hl
    refine ev_pos rfl (Ev.bind hh (Ev.bind hl (ev_pos rfl (ev_pos rfl (ev_pos rfl (ev_pos (by rw [flT_size]) ?_))))))
    rcases hr with ⟨y, g1, g2, rfl⟩ | rfl
    · have hy : y < 10 ^ (2 * Q) := by omega
      have hb := ihs_ev _ (okTk_T Q y h1 h6)
      have hne := first_is Q s.toNat y g1 hy g2
      rw [hsS] at hne
      exact ev_pos rfl (Ev.bind hb (ev_pos rfl (ev_neg (by show ¬ hA (mkT (2 * Q) y) = s; rw [T_A Q y hy]; exact hne) (j5_ev m p q k x))))
    · exact ev_neg (by simp) (j5_ev m p q k x)
  · have e : fstG n s = ((⟨#[]⟩ : ByteArray), false) := by unfold fstG; rw [if_neg c]
    rw [e]
    exact ev_neg (by simp) (j5_ev m p q k x)
theorem j3_ev (l : List Int) (hl : Bytes l) : Ev (fun g => laws_FnTicketsTurned.j3 g l) true := by
  obtain ⟨n, s, hd1⟩ := drawFirst_ok l hl
  obtain ⟨m, p, q, hd2⟩ := drawTickets_ok l hl
  obtain ⟨k, x, hd3, hx⟩ := drawNumber_ok l hl
  have fc := first_count n s
  refine ev_succ ?_
  simp only [laws_FnTicketsTurned.j3]
  refine ev_bind hd1 (Ev.bind (ifirst_ev n s) (Ev.bind (sfirst_ev n s) (Ev.bind (iclo_ev n s) (Ev.bind (sclo_ev n s) (ev_bind hd2 (Ev.bind (ict_ev m p q) (Ev.bind (sct_ev m p q) (ev_bind hd3 (ev_bind (itn_eq k x hx) (Ev.bind (stn_ev k x hx) ?_))))))))))
  refine ev_neg (by simp) (ev_pos rfl (ev_neg (by simp) (ev_pos rfl (ev_neg (by simp) (ev_pos rfl (ev_neg (by simp) (ev_pos rfl ?_)))))))
  by_cases c : (ctG n s s).2 = true
  · refine ev_pos c ?_
    have e : ((fstG n s).2 != decide ((ctG n s s).1 > 0)) = false := by rw [fc, c]; simp
    dsimp only
    rw [e]
    exact j4_ev n s m p q k x
  · refine ev_neg c ?_
    have e : ((fstG n s).2 != false) = false := by rw [fc, Bool.not_eq_true _ |>.mp c]; rfl
    dsimp only
    rw [e]
    exact j4_ev n s m p q k x
/-! the first part: loops -/
theorem eDig_loop (t : ByteArray) (hs : t.size ≤ 1000000) (hd : ∀ b ∈ t.data.toList, 48 ≤ b.toNat ∧ b.toNat ≤ 57) : ∀ (d i : Nat) (x : Int), i + d = t.size → 0 ≤ x → x ≤ 9 * i →
    Ev (fun k => laws_eDigits.l0 k t x (i : Int)) (x + lsum (t.data.toList.drop i)) := by
  have hl := size_len t
  intro d
  induction d with
  | zero =>
    intro i x hi _ _
    refine ev_succ ?_
    simp only [laws_eDigits.l0]
    rw [List.drop_eq_nil_of_le (by omega)]
    exact ev_neg (by omega) (ev_eq fun _ => by simp [lsum])
  | succ d ih =>
    intro i x hi h0 h1
    have hlt : i < t.data.toList.length := by omega
    have hb := hd t.data.toList[i] (List.getElem_mem hlt)
    have e1 : dv t.data.toList[i] = (t.data.toList[i].toNat : Int) - 48 := by unfold dv; omega
    refine ev_succ ?_
    simp only [laws_eDigits.l0]
    rw [bt_get t i hlt, List.drop_eq_getElem_cons hlt, wrap_nat (by omega)]
    have w : wrap64 (x + wrap64 (wrap64 (t.data.toList[i].toNat : Int) - 48)) = x + ((t.data.toList[i].toNat : Int) - 48) := by
      rw [wrap_of (x := (t.data.toList[i].toNat : Int)) (by omega) (by omega), wrap_of (x := (t.data.toList[i].toNat : Int) - 48) (by omega) (by omega), wrap_of (by omega) (by omega)]
    rw [w]
    refine ev_pos (by omega) (ev_pos (by omega) ?_)
    simp only [lsum]
    rw [e1, ← Int.add_assoc]
    exact ih (i + 1) _ (by omega) (by omega) (by omega)
theorem eDig_ev (l : List UInt8) (hs : l.length ≤ 1000000) (hd : ∀ b ∈ l, 48 ≤ b.toNat ∧ b.toNat ≤ 57) : Ev (fun k => laws_eDigits.f k (mkB l)) (lsum l) := by
  have h := eDig_loop (mkB l) (by rw [mk_size]; omega) (by rw [list_of]; exact hd) (mkB l).size 0 0 (by omega) (Int.le_refl 0) (by omega)
  simp only [List.drop_zero, Int.zero_add] at h
  exact h
theorem eHas_ev (s : ByteArray) (d : Nat) (hd : d < 10) : Ev (fun k => laws_eHas.f k (ldig s) (d : Int)) (decide (hA s = hC s + d)) := by
  unfold laws_eHas.f ldig
  by_cases c : 0 ≤ hA s - hC s ∧ hA s - hC s ≤ 9
  · rw [if_pos c]
    refine ev_succ ?_
    simp only [laws_eHas.l0]
    refine ev_pos (by simp) (ev_pos (by omega) (ev_pos (by simp) ?_))
    have e : rd [hA s - hC s] 0 = hA s - hC s := rfl
    rw [e]
    by_cases c2 : hA s - hC s = d
    · rw [decide_eq_true (by omega)]; exact ev_pos c2 (ev_eq fun _ => rfl)
    · rw [decide_eq_false (by omega)]
      refine ev_neg c2 (ev_succ ?_)
      simp only [laws_eHas.l0]
      have w : wrap64 (0 + 1) = 1 := wrap_of (by omega) (by omega)
      rw [w]
      exact ev_neg (by simp) (ev_eq fun _ => rfl)
  · rw [if_neg c, decide_eq_false (by omega)]
    refine ev_succ ?_
    simp only [laws_eHas.l0]
    exact ev_neg (by simp) (ev_eq fun _ => rfl)
theorem enc_one (d : Nat) (hd : d < 10) : Utf8.encode (wrap32 (wrap64 (48 + (d : Int)))) = mkB [dch d] := by
  rw [wrap_of (by omega) (by omega), enc_base d hd, one_digit d hd]
theorem l2_ev (l : List Int) (hl : Bytes l) (s : ByteArray) (h : okTk s = true) : ∀ e d : Nat, d + e = 10 → Ev (fun g => laws_FnTicketsTurned.l2 g l s (ldig s) (d : Int)) true := by
  have hp := okTk_parts h
  have hsl := size_len s
  have e0 : s.extract 0 (s.size - 1) = mkB (s.data.toList.take (s.size - 1)) := ext_take s _ (by omega)
  have ew : wrap64 ((s.size : Int) - 1) = ((s.size - 1 : Nat) : Int) := by rw [wrap_of (by omega) (by omega)]; omega
  intro e
  induction e with
  | zero =>
    intro d hd
    refine ev_succ ?_
    simp only [laws_FnTicketsTurned.l2]
    exact ev_neg (by omega) (j3_ev l hl)
  | succ e ih =>
    intro d hd
    have hd10 : d < 10 := by omega
    have hw := wl1_ok h d hd10
    have e1 : mkB (s.data.toList.take (s.size - 1)) ++ mkB [dch d] = wl1 s d := by rw [mk_append]; rfl
    have hil := il_ev (wl1 s d) hw
    rw [wl1_A h d, wl1_B h d hd10] at hil
    refine ev_succ ?_
    simp only [laws_FnTicketsTurned.l2]
    rw [ew, Int.toNat_natCast, e0, enc_one d hd10, e1, wrap_nat (by omega)]
    exact ev_pos (by omega) (ev_pos (by omega) (ev_pos (by omega) (ev_pos (by rw [mk_size (s.data.toList.take (s.size - 1)), mk_size [dch d], List.length_take]; simp; omega) (Ev.bind hil (ev_pos rfl (Ev.bind (eHas_ev s d hd10) (ev_neg (by simp) (ih (d + 1) (by omega)))))))))

/-! the first part of the law -/
theorem lsum_rev (l : List UInt8) : lsum l.reverse = lsum l := by
  induction l with
  | nil => rfl
  | cons b l ih => rw [List.reverse_cons, lsum_append, ih]; simp only [lsum]; omega
theorem lsum_nine (l : List UInt8) (h : ∀ b ∈ l, 48 ≤ b.toNat ∧ b.toNat ≤ 57) : lsum (l.map nine) = 9 * l.length - lsum l := by
  induction l with
  | nil => rfl
  | cons b l ih =>
    have hb := h b (List.mem_cons_self ..)
    simp only [List.map_cons, lsum, List.length_cons]
    rw [ih (fun x hx => h x (List.mem_cons_of_mem _ hx))]
    unfold dv
    rw [nine_nat hb]
    omega
theorem turn_ok {s : ByteArray} (h : okTk s = true) : okTk (mkB s.data.toList.reverse) = true := by
  have hp := okTk_parts h
  have hl := size_len s
  exact okTk_mk (fun b hb => hp.1 b (List.mem_reverse.mp hb)) (by rw [List.length_reverse]; omega) (by rw [List.length_reverse]; omega) (by rw [List.length_reverse]; omega)
theorem swp_ok {s : ByteArray} (h : okTk s = true) : okTk (swp s) = true := by
  have hp := okTk_parts h
  have hl := size_len s
  unfold swp
  refine okTk_mk (fun b hb => ?_) ?_ ?_ ?_
  · rcases List.mem_append.mp hb with hb | hb
    · exact hp.1 b (List.mem_of_mem_drop hb)
    · exact hp.1 b (List.mem_of_mem_take hb)
  all_goals (simp only [List.length_append, List.length_take, List.length_drop]; omega)
theorem nin_ok {s : ByteArray} (h : okTk s = true) : okTk (nin s) = true := by
  have hp := okTk_parts h
  have hl := size_len s
  unfold nin
  refine okTk_mk (fun b hb => ?_) ?_ ?_ ?_
  · obtain ⟨x, hx, rfl⟩ := List.mem_map.mp hb
    have := hp.1 x hx
    rw [nine_nat this]; omega
  all_goals (simp only [List.length_map]; omega)
theorem turn_size (s : ByteArray) : (mkB s.data.toList.reverse).size = s.size := by rw [mk_size, List.length_reverse, size_len]
theorem swp_size (s : ByteArray) : (swp s).size = s.size := by
  have hl := size_len s
  unfold swp
  rw [mk_size]
  simp only [List.length_append, List.length_take, List.length_drop]; omega
theorem nin_size (s : ByteArray) : (nin s).size = s.size := by unfold nin; rw [mk_size, List.length_map, size_len]
theorem turn_back (s : ByteArray) : mkB (mkB s.data.toList.reverse).data.toList.reverse = s := by
  rw [list_of, List.reverse_reverse]
theorem swp_back {s : ByteArray} (h : okTk s = true) : swp (swp s) = s := by
  have hp := okTk_parts h
  have hl := size_len s
  have hs := swp_size s
  have e : (swp s).data.toList = s.data.toList.drop (s.size / 2) ++ s.data.toList.take (s.size / 2) := by unfold swp; rw [list_of]
  have h2 : swp (swp s) = mkB ((swp s).data.toList.drop ((swp s).size / 2) ++ (swp s).data.toList.take ((swp s).size / 2)) := rfl
  have hd : (s.data.toList.drop (s.size / 2)).length = s.size / 2 := by rw [List.length_drop]; omega
  rw [h2, hs, e, List.drop_left' hd, List.take_left' hd, List.take_append_drop]
theorem nin_back {s : ByteArray} (h : okTk s = true) : nin (nin s) = s := by
  have hp := okTk_parts h
  have e : (nin s).data.toList = s.data.toList.map nine := by unfold nin; rw [list_of]
  have h2 : nin (nin s) = mkB ((nin s).data.toList.map nine) := rfl
  have h3 : s.data.toList.map (nine ∘ nine) = s.data.toList := by
    conv => rhs; rw [← List.map_id s.data.toList]
    refine List.map_congr_left (fun b hb => ?_)
    have hb := hp.1 b hb
    have h1 := nine_nat hb
    refine UInt8.toNat_inj.mp ?_
    show (nine (nine b)).toNat = b.toNat
    rw [nine_nat (by omega), h1]; omega
  rw [h2, e, List.map_map, h3]
theorem turn_luck {s : ByteArray} (h : okTk s = true) : hA (mkB s.data.toList.reverse) = hB s ∧ hB (mkB s.data.toList.reverse) = hA s := by
  have hp := okTk_parts h
  have hl := size_len s
  unfold hA hB
  rw [turn_size, list_of, List.take_reverse, List.drop_reverse, lsum_rev, lsum_rev, hl, show s.size - s.size / 2 = s.size / 2 by omega]
  exact ⟨rfl, rfl⟩
theorem swp_luck {s : ByteArray} (h : okTk s = true) : hA (swp s) = hB s ∧ hB (swp s) = hA s := by
  have hp := okTk_parts h
  have hl := size_len s
  have e : (swp s).data.toList = s.data.toList.drop (s.size / 2) ++ s.data.toList.take (s.size / 2) := by unfold swp; rw [list_of]
  have hd : (s.data.toList.drop (s.size / 2)).length = s.size / 2 := by rw [List.length_drop]; omega
  unfold hA hB
  rw [swp_size, e, List.drop_left' hd, List.take_left' hd]
  exact ⟨rfl, rfl⟩
theorem nin_luck {s : ByteArray} (h : okTk s = true) : hA (nin s) = 9 * ((s.size / 2 : Nat) : Int) - hA s ∧ hB (nin s) = 9 * ((s.size / 2 : Nat) : Int) - hB s := by
  have hp := okTk_parts h
  have hl := size_len s
  have e : (nin s).data.toList = s.data.toList.map nine := by unfold nin; rw [list_of]
  unfold hA hB
  rw [nin_size, e, ← List.map_take, ← List.map_drop, lsum_nine _ (fun b hb => hp.1 b (List.mem_of_mem_take hb)), lsum_nine _ (fun b hb => hp.1 b (List.mem_of_mem_drop hb)), List.length_take, List.length_drop, hl]
  refine ⟨?_, ?_⟩
  · rw [Nat.min_eq_left (by omega)]
  · rw [show s.size - s.size / 2 = s.size / 2 by omega]
theorem l1_ev (l : List Int) (hl : Bytes l) (s : ByteArray) (h : okTk s = true) : ∀ d i : Nat, i + d = s.size →
    Ev (fun g => laws_FnTicketsTurned.l1 g l s (mkB s.data.toList.reverse) (nin s) (evry s) (ldig s) s true s true s true (alt s.data.toList i) s (i : Int)) true := by
  have hp := okTk_parts h
  have hsl := size_len s
  have hts := turn_size s
  have hns := nin_size s
  intro d
  induction d with
  | zero =>
    intro i hi
    have e : (evry s != (alt s.data.toList i == 0)) = false := by
      unfold evry
      rw [show s.size = i by omega]
      by_cases c : alt s.data.toList i = 0
      · rw [decide_eq_true c, c]; rfl
      · rw [decide_eq_false c]; simp [c]
    have h2 := l2_ev l hl s h 10 0 (by omega)
    have hlen : ¬ (((ldig s).length : Int) > 1) := by unfold ldig; split <;> simp
    refine ev_succ ?_
    simp only [laws_FnTicketsTurned.l1]
    rw [e]
    exact ev_neg (by omega) (ev_pos (by trivial) (ev_pos (by trivial) (ev_pos (by trivial) (ev_pos (by trivial) (ev_pos (by trivial) (ev_pos (by trivial) (ev_neg (by decide) (ev_neg hlen h2))))))))
  | succ d ih =>
    intro i hi
    have hlt : i < s.data.toList.length := by omega
    have hlt2 : s.size - 1 - i < s.data.toList.length := by omega
    have hb := hp.1 s.data.toList[i] (List.getElem_mem hlt)
    have hv := bv_get s.data.toList i hlt
    have hbt := bt_get s i hlt
    have hab := alt_bd s.data.toList i
    have hbb := bv_bd s.data.toList i
    have w1 : wrap64 (wrap64 ((s.size : Int) - 1) - (i : Int)) = ((s.size - 1 - i : Nat) : Int) := by
      rw [wrap_of (x := (s.size : Int) - 1) (by omega) (by omega), wrap_of (by omega) (by omega)]; omega
    have et : bt (mkB s.data.toList.reverse) (i : Int) = bt s ((s.size - 1 - i : Nat) : Int) := by
      have hlr : i < (mkB s.data.toList.reverse).data.toList.length := by rw [size_len, hts]; omega
      rw [bt_get _ i hlr, bt_get s _ hlt2, List.getElem_of_eq (list_of s.data.toList.reverse) hlr, List.getElem_reverse]
      congr 3
    have en : (bt s (i : Int) + bt (nin s) (i : Int)) % 256 = 105 := by
      have hln : i < (nin s).data.toList.length := by rw [size_len, hns]; omega
      have e : (nin s).data.toList = s.data.toList.map nine := by unfold nin; rw [list_of]
      rw [bt_get _ i hln, hbt, List.getElem_of_eq e hln, List.getElem_map, nine_nat hb]; omega
    have w2 : wrap64 (bt s (i : Int)) = bv s.data.toList i := by rw [hbt, hv, wrap_of (by omega) (by omega)]
    have ihh := ih (i + 1) (by omega)
    refine ev_succ ?_
    simp only [laws_FnTicketsTurned.l1]
    rw [w1, w2, wrap_nat (by omega)]
    refine ev_pos (by omega) (ev_pos (by omega) (ev_pos (by rw [hbt]; omega) (ev_pos (by omega) (ev_pos (by omega) (ev_pos (by omega) (ev_pos et (ev_pos (by omega) (ev_pos (by omega) (ev_pos en ?_)))))))))
    have em : Int.tmod (i : Int) 2 = ((i % 2 : Nat) : Int) := by rw [Int.tmod_eq_emod_of_nonneg (by omega)]; omega
    rw [em]
    simp only [alt] at ihh
    by_cases c : i % 2 = 0
    · rw [if_pos c] at ihh
      rw [wrap_of (x := alt s.data.toList i + bv s.data.toList i) (by omega) (by omega)]
      exact ev_pos (by omega) ihh
    · rw [if_neg c] at ihh
      have w3 : wrap64 (alt s.data.toList i - bv s.data.toList i) = alt s.data.toList i - bv s.data.toList i := wrap_of (by omega) (by omega)
      rw [w3]
      exact ev_neg (by omega) ihh
theorem l0_end (l : List Int) (hl : Bytes l) (s : ByteArray) (h : okTk s = true) (z : Bool) (o : List ByteArray) (n x : Int) (hx : ¬ x < n) :
    Ev (fun g => laws_FnTicketsTurned.l0 g l s (mkB s.data.toList.reverse) (swp s) (nin s) (evry s) (ldig s) z o n x) true := by
  have e1 := iturn_ev _ (turn_ok h)
  have e2 := iswap_ev _ (swp_ok h)
  have e3 := inine_ev _ (nin_ok h)
  rw [turn_back] at e1
  rw [swp_back h] at e2
  rw [nin_back h] at e3
  refine ev_succ ?_
  simp only [laws_FnTicketsTurned.l0]
  exact ev_neg hx (Ev.bind e1 (Ev.bind e2 (Ev.bind e3 (l1_ev l hl s h s.size 0 (by omega)))))
theorem l0_step (l : List Int) (s a b c : ByteArray) (ev : Bool) (dg : List Int) (z : Bool) (o : List ByteArray) (n x : Int) (y : ByteArray) (hx : x < n) (h0 : 0 ≤ x) (hn : x < (o.length : Int)) (hy : rdOf ByteArray.empty o x = y) (hok : okTk y = true) (hlk : decide (hA y = hB y) = z) (hsz : y.size = s.size)
    (hr : Ev (fun g => laws_FnTicketsTurned.l0 g l s a b c ev dg z o n (wrap64 (x + 1))) true) :
    Ev (fun g => laws_FnTicketsTurned.l0 g l s a b c ev dg z o n x) true := by
  have e := il_ev y hok
  rw [hlk] at e
  refine ev_succ ?_
  simp only [laws_FnTicketsTurned.l0]
  rw [hy]
  exact ev_pos hx (ev_pos h0 (ev_pos hn (Ev.bind e (ev_pos rfl (ev_neg (by simp) (ev_pos (by rw [hsz]) hr))))))
theorem l0_ev (l : List Int) (hl : Bytes l) (s : ByteArray) (h : okTk s = true) :
    Ev (fun g => laws_FnTicketsTurned.l0 g l s (mkB s.data.toList.reverse) (swp s) (nin s) (evry s) (ldig s) (decide (hA s = hB s)) [mkB s.data.toList.reverse, swp s, nin s] 3 0) true := by
  have t1 := turn_luck h
  have t2 := swp_luck h
  have t3 := nin_luck h
  have w1 : wrap64 (0 + 1) = 1 := wrap_of (by omega) (by omega)
  have w2 : wrap64 (1 + 1) = 2 := wrap_of (by omega) (by omega)
  have w3 : wrap64 (2 + 1) = 3 := wrap_of (by omega) (by omega)
  refine l0_step l s _ _ _ _ _ _ _ _ _ (mkB s.data.toList.reverse) (by omega) (by omega) (by simp) rfl (turn_ok h) (by rw [t1.1, t1.2]; exact decide_eq_decide.mpr ⟨fun e => e.symm, fun e => e.symm⟩) (turn_size s) ?_
  rw [w1]
  refine l0_step l s _ _ _ _ _ _ _ _ _ (swp s) (by omega) (by omega) (by simp) rfl (swp_ok h) (by rw [t2.1, t2.2]; exact decide_eq_decide.mpr ⟨fun e => e.symm, fun e => e.symm⟩) (swp_size s) ?_
  rw [w2]
  refine l0_step l s _ _ _ _ _ _ _ _ _ (nin s) (by omega) (by omega) (by simp) rfl (nin_ok h) (by rw [t3.1, t3.2]; exact decide_eq_decide.mpr ⟨fun e => by omega, fun e => by omega⟩) (nin_size s) ?_
  rw [w3]
  exact l0_end l hl s h _ _ _ _ (by omega)

theorem eSame_refl (l : List Int) (hl : l.length ≤ 1000000) : Ev (fun k => laws_eSame.f k l l) true := by
  have go : ∀ d i : Nat, i + d = l.length → Ev (fun k => laws_eSame.l0 k l l (l.length : Int) (i : Int)) true := by
    intro d
    induction d with
    | zero =>
      intro i hi
      refine ev_succ ?_
      simp only [laws_eSame.l0]
      exact ev_neg (by omega) (ev_eq fun _ => rfl)
    | succ d ih =>
      intro i hi
      refine ev_succ ?_
      simp only [laws_eSame.l0]
      rw [wrap_nat (by omega)]
      exact ev_pos (by omega) (ev_pos (by omega) (ev_pos (by omega) (ev_pos (by omega) (ev_pos trivial (ih (i + 1) (by omega))))))
  unfold laws_eSame.f
  exact ev_pos rfl (go l.length 0 (by omega))
theorem FnTicketsTurned : laws_FnTicketsTurned.Pure := by
  intro l0 l1 hl0 hb0 hw0 hl1 hb1 hw1
  refine Ev.rounds ?_
  unfold laws_FnTicketsTurned.f laws_big.f
  by_cases hbig : (l0.length : Int) > 1048576
  · rw [if_pos hbig]; exact ev_bind rfl (ev_pos rfl (ev_eq fun _ => rfl))
  rw [if_neg hbig]
  by_cases hb : decide ((l1.length : Int) > wrap64 (1048576 - (l0.length : Int))) = true
  · exact ev_bind rfl (ev_pos hb (ev_eq fun _ => rfl))
  refine ev_bind rfl (ev_neg hb ?_)
  obtain ⟨s, hd, hs⟩ := drawHalf_ok l0 hw0
  refine Ev.bind hd ?_
  by_cases h : okTk s = true
  · have hp := okTk_parts h
    have hsl := size_len s
    have hlen : (ldig s).length ≤ 1000000 := by unfold ldig; split <;> simp
    refine Ev.bind (ihs_ev s h) (Ev.bind (shs_ev s h) (Ev.bind (iturn_ev s h) (Ev.bind (sturn_ev s h) (Ev.bind (iswap_ev s h) (Ev.bind (sswap_ev s h) (Ev.bind (inine_ev s h) (Ev.bind (snine_ev s h) (Ev.bind (ievery_ev s h) (Ev.bind (severy_ev s h) (Ev.bind (ildig_ev s h) (Ev.bind (sldig_ev s h) ?_)))))))))))
    refine ev_neg (by simp) (ev_pos rfl (ev_pos rfl (ev_neg (by simp) (ev_pos rfl (ev_neg (by simp) (ev_pos rfl (ev_neg (by simp) (ev_pos rfl (ev_neg (by simp) (ev_neg (by simp) (ev_neg (by simp) (Ev.bind (eSame_refl _ hlen) (ev_pos rfl ?_)))))))))))))
    refine ev_neg (by simp) (ev_neg (by simp) (ev_neg (by simp) (ev_neg (by simp) (ev_neg (by simp) (ev_pos rfl (Ev.bind (il_ev s h) ?_))))))
    rw [half_w s (ok_size h), Int.toNat_natCast, ext_take s _ (by omega), ext_drop]
    have hs1 : (mkB (s.data.toList.drop (s.size / 2))).size + (mkB (s.data.toList.take (s.size / 2))).size ≤ 9223372036854775807 := by rw [mk_size (s.data.toList.drop (s.size / 2)), mk_size (s.data.toList.take (s.size / 2)), List.length_drop, List.length_take]; omega
    refine ev_pos (by omega) (ev_pos (by omega) (Ev.bind (eDig_ev _ (by rw [List.length_take]; omega) (fun b hb => hp.1 b (List.mem_of_mem_take hb))) (ev_pos rfl (Ev.bind (eDig_ev _ (by rw [List.length_drop]; omega) (fun b hb => hp.1 b (List.mem_of_mem_drop hb))) (ev_pos rfl (ev_pos rfl (ev_neg ?_ (ev_pos hs1 (ev_pos ?_ (ev_bind rfl (l0_ev l1 hw1 s h)))))))))))
    · show ¬ (decide (hA s = hB s) != (hA s == hB s)) = true
      by_cases c : hA s = hB s
      · rw [decide_eq_true c, c]; simp
      · rw [decide_eq_false c]; simp [c]
    · show (swp s).toList = (mkB (s.data.toList.drop (s.size / 2)) ++ mkB (s.data.toList.take (s.size / 2))).toList
      rw [mk_append]; rfl
  · have hz : s.size ≤ 1000000 := by omega
    have i1 : Ev (fun k => impl_HalfSums.f k s) (0, 0, false) := by unfold impl_HalfSums.f; exact Ev.bind (isTicket_ev _ hz) (ev_neg h (ev_eq fun _ => rfl))
    have s1 : Ev (fun k => spec_HalfSums.f k s) (0, 0, false) := by unfold spec_HalfSums.f; exact Ev.bind (tkGood_ev _ hz) (ev_neg h (ev_eq fun _ => rfl))
    have i2 : Ev (fun k => impl_TurnTicket.f k s) ((⟨#[]⟩ : ByteArray), false) := by unfold impl_TurnTicket.f; exact Ev.bind (isTicket_ev _ hz) (ev_neg h (ev_eq fun _ => rfl))
    have s2 : Ev (fun k => spec_TurnTicket.f k s) ((⟨#[]⟩ : ByteArray), false) := by unfold spec_TurnTicket.f; exact Ev.bind (tkGood_ev _ hz) (ev_neg h (ev_eq fun _ => rfl))
    have i3 : Ev (fun k => impl_SwapHalves.f k s) ((⟨#[]⟩ : ByteArray), false) := by unfold impl_SwapHalves.f; exact Ev.bind (isTicket_ev _ hz) (ev_neg h (ev_eq fun _ => rfl))
    have s3 : Ev (fun k => spec_SwapHalves.f k s) ((⟨#[]⟩ : ByteArray), false) := by unfold spec_SwapHalves.f; exact Ev.bind (tkGood_ev _ hz) (ev_neg h (ev_eq fun _ => rfl))
    have i4 : Ev (fun k => impl_NinesTicket.f k s) ((⟨#[]⟩ : ByteArray), false) := by unfold impl_NinesTicket.f; exact Ev.bind (isTicket_ev _ hz) (ev_neg h (ev_eq fun _ => rfl))
    have s4 : Ev (fun k => spec_NinesTicket.f k s) ((⟨#[]⟩ : ByteArray), false) := by unfold spec_NinesTicket.f; exact Ev.bind (tkGood_ev _ hz) (ev_neg h (ev_eq fun _ => rfl))
    have i5 : Ev (fun k => impl_IsEverySecond.f k s) (false, false) := by unfold impl_IsEverySecond.f; exact Ev.bind (isTicket_ev _ hz) (ev_neg h (ev_eq fun _ => rfl))
    have s5 : Ev (fun k => spec_IsEverySecond.f k s) (false, false) := by unfold spec_IsEverySecond.f; exact Ev.bind (tkGood_ev _ hz) (ev_neg h (ev_eq fun _ => rfl))
    have i6 : Ev (fun k => impl_LuckyDigits.f k s) ([], false) := by unfold impl_LuckyDigits.f; exact Ev.bind (isTicket_ev _ hz) (ev_neg h (ev_eq fun _ => rfl))
    have s6 : Ev (fun k => spec_LuckyDigits.f k s) ([], false) := by unfold spec_LuckyDigits.f; exact Ev.bind (tkGood_ev _ hz) (ev_neg h (ev_eq fun _ => rfl))
    refine Ev.bind i1 (Ev.bind s1 (Ev.bind i2 (Ev.bind s2 (Ev.bind i3 (Ev.bind s3 (Ev.bind i4 (Ev.bind s4 (Ev.bind i5 (Ev.bind s5 (Ev.bind i6 (Ev.bind s6 ?_)))))))))))
    refine ev_neg (by simp) (ev_pos rfl (ev_pos rfl (ev_neg (by simp) (ev_pos rfl (ev_neg (by simp) (ev_pos rfl (ev_neg (by simp) (ev_pos rfl (ev_neg (by simp) (ev_neg (by simp) (ev_neg (by simp) (Ev.bind (eSame_refl [] (by simp)) (ev_pos rfl ?_)))))))))))))
    exact ev_neg (by simp) (ev_neg (by simp) (ev_neg (by simp) (ev_neg (by simp) (ev_neg (by simp) (ev_neg (by simp) (j3_ev l1 hw1))))))

end Go.Proofs.YtlgpjilhjfkmbaaGreatDoor.Pure

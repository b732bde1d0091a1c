/- TicketsRanked: lucky tickets are told by ranks, next and last ones have none between, and counts between tickets are those of ranks (numbers, lists and texts alone). -/
import Derived.Test.YtlgpjilhjfkmbaaDoorPFnTicketsRankedx10
namespace Go.Proofs.YtlgpjilhjfkmbaaDoor.Pure
open Go.RowKit Go.Proofs.YtlgpjilhjfkmbaaDoor.PFnTicketsRanked Go.Proofs.YtlgpjilhjfkmbaaDoorW.PrintWords Go.Proofs.YtlgpjilhjfkmbaaDoorW.PrintLast
set_option linter.unusedVariables false
set_option linter.unusedSimpArgs false

theorem wrap_of {x : Int} (h0 : -9223372036854775808 ≤ x) (h1 : x ≤ 9223372036854775807) : wrap64 x = x := by unfold wrap64; omega
theorem wrap_nat {i : Nat} (h : i < 4611686018427387904) : wrap64 ((i : Int) + 1) = ((i + 1 : Nat) : Int) := by unfold wrap64; omega
theorem ev_eq {α : Type} {g : Nat → Option α} {r : α} (h : ∀ k, g k = some r) : Ev g r := ⟨0, fun k _ => h k⟩
theorem ev_bind {α β : Type} {x : Option α} {f : Nat → α → Option β} {a : α} {r : β} (h : x = some a) (k : Ev (fun n => f n a) r) : Ev (fun n => x.bind (f n)) r := by subst h; exact k
theorem ev_pos {α : Type} {c : Prop} [Decidable c] {g f : Nat → Option α} {r : α} (h : c) (k : Ev g r) : Ev (fun n => if c then g n else f n) r := by simp only [if_pos h]; exact k
theorem ev_neg {α : Type} {c : Prop} [Decidable c] {g f : Nat → Option α} {r : α} (h : ¬ c) (k : Ev f r) : Ev (fun n => if c then g n else f n) r := by simp only [if_neg h]; exact k
theorem ev_from {α : Type} {g : Nat → Option α} {r : α} (K : Nat) (h : ∀ k, K ≤ k → g k = some r) : Ev g r := ⟨K, h⟩

/-! ### bytes of a text -/
theorem size_len (t : ByteArray) : t.data.toList.length = t.size := by rw [Array.length_toList]; rfl
theorem bt_get (t : ByteArray) (i : Nat) (h : i < t.data.toList.length) : bt t (i : Int) = ((t.data.toList[i]).toNat : Int) := by
  unfold bt
  rw [dif_pos (by rw [Int.toNat_natCast]; simpa using h)]
  simp only [Int.toNat_natCast]
  rfl
theorem ev_succ {α : Type} {g : Nat → Option α} {r : α} (h : Ev (fun k => g (k + 1)) r) : Ev g r := by
  obtain ⟨K, hK⟩ := h
  refine ev_from (K + 1) (fun k hk => ?_)
  obtain ⟨k, rfl⟩ : ∃ m, k = m + 1 := ⟨k - 1, by omega⟩
  exact hK k (by omega)
theorem ext_list (s : ByteArray) (a b : Nat) (hb : b ≤ s.size) : (s.extract a b).data.toList = (s.data.toList.take b).drop a := by
  rw [ByteArray.data_extract, Array.toList_extract, List.extract_eq_take_drop]
  rw [List.drop_take]
theorem take_list (s : ByteArray) (i : Nat) (h : i ≤ s.size) : (s.extract 0 i).data.toList = s.data.toList.take i := by rw [ext_list s 0 i h]; rfl
theorem drop_list (s : ByteArray) (i : Nat) : (s.extract i s.size).data.toList = s.data.toList.drop i := by
  rw [ext_list s i s.size (Nat.le_refl _), List.take_of_length_le (by rw [size_len]; exact Nat.le_refl _)]
theorem mk_data (s : ByteArray) : (⟨s.data.toList.toArray⟩ : ByteArray) = s := by cases s; simp
theorem of_list {s : ByteArray} {l : List UInt8} (h : s.data.toList = l) : s = ⟨l.toArray⟩ := by rw [← h, mk_data]
theorem list_of (l : List UInt8) : (⟨l.toArray⟩ : ByteArray).data.toList = l := by simp
theorem mk_size (l : List UInt8) : (⟨l.toArray⟩ : ByteArray).size = l.length := by rw [← size_len, list_of]
theorem mk_append (a b : List UInt8) : (⟨a.toArray⟩ : ByteArray) ++ ⟨b.toArray⟩ = ⟨(a ++ b).toArray⟩ := by
  apply of_list; rw [ByteArray.data_append, Array.toList_append, list_of, list_of]
theorem l1In_eq (n lo hi : Int) : spec_l1In.f n lo hi = some (decide (lo ≤ n ∧ n ≤ hi)) := by
  unfold spec_l1In.f
  by_cases h : n ≥ lo
  · rw [if_pos h]; congr 1; simp; intro _; omega
  · rw [if_neg h]; congr 1; simp; intro; omega
theorem within_eq (n lo hi : Int) : impl_within.f n lo hi = some (decide (lo ≤ n ∧ n ≤ hi)) := by
  unfold impl_within.f
  by_cases h : lo ≤ n
  · rw [if_pos h]; congr 1; simp; intro _; omega
  · rw [if_neg h]; congr 1; simp; intro; omega

/-! ### digit sums, and how many numbers below one have a sum -/
def ds (n : Nat) : Int := if h : n < 10 then (n : Int) else ((n % 10 : Nat) : Int) + ds (n / 10)
termination_by n
decreasing_by omega
theorem ds_small {n : Nat} (h : n < 10) : ds n = n := by rw [ds, dif_pos h]
theorem ds_step (n : Nat) : ds n = ((n % 10 : Nat) : Int) + ds (n / 10) := by
  by_cases h : n < 10
  · rw [ds_small h, Nat.div_eq_of_lt h, Nat.mod_eq_of_lt h, ds_small (by omega)]; simp
  · rw [ds, dif_neg h]
theorem ds_cons (a d : Nat) (h : d < 10) : ds (10 * a + d) = ds a + d := by
  rw [ds_step, show (10 * a + d) % 10 = d by omega, show (10 * a + d) / 10 = a by omega]; omega
theorem ds_nonneg (n : Nat) : 0 ≤ ds n := by
  induction n using Nat.strongRecOn with
  | _ n ih =>
    by_cases h : n < 10
    · rw [ds_small h]; omega
    · rw [ds_step]; have := ih (n / 10) (by omega); omega
theorem ds_pos {n : Nat} (h : 0 < n) : 0 < ds n := by
  induction n using Nat.strongRecOn with
  | _ n ih =>
    by_cases h1 : n < 10
    · rw [ds_small h1]; omega
    · rw [ds_step]; have := ih (n / 10) (by omega) (by omega); omega
theorem ds_le (k : Nat) : ∀ n, n < 10 ^ k → ds n ≤ 9 * k := by
  induction k with
  | zero => intro n h; have : n = 0 := by simpa using h
            subst this; rw [ds_small (by omega)]; omega
  | succ k ih =>
    intro n h
    rw [ds_step]
    have := ih (n / 10) (by rw [Nat.pow_succ] at h; omega)
    omega
theorem ds_split (k : Nat) : ∀ n, ds n = ds (n % 10 ^ k) + ds (n / 10 ^ k) := by
  induction k with
  | zero => intro n; simp [ds_small, Nat.mod_one]
  | succ k ih =>
    intro n
    rw [ds_step n, ih (n / 10), ds_step (n % 10 ^ (k + 1))]
    have h1 : n % 10 ^ (k + 1) % 10 = n % 10 := Nat.mod_mod_of_dvd n ⟨10 ^ k, by rw [Nat.pow_succ, Nat.mul_comm]⟩
    have h2 : n % 10 ^ (k + 1) / 10 = n / 10 % 10 ^ k := by rw [Nat.pow_succ, Nat.mul_comm, Nat.mod_mul_right_div_self]
    have h3 : n / 10 / 10 ^ k = n / 10 ^ (k + 1) := by rw [Nat.div_div_eq_div_mul, Nat.pow_succ, Nat.mul_comm]
    rw [h1, h2, h3]; omega
/-- how many texts of k digits have a sum -/
def W : Nat → Int → Int
  | 0, s => if s = 0 then 1 else 0
  | k + 1, s => W k s + W k (s - 1) + W k (s - 2) + W k (s - 3) + W k (s - 4) + W k (s - 5) + W k (s - 6) + W k (s - 7) + W k (s - 8) + W k (s - 9)
theorem W_neg (k : Nat) : ∀ s, s < 0 → W k s = 0 := by
  induction k with
  | zero => intro s h; simp only [W]; rw [if_neg (by omega)]
  | succ k ih => intro s h; simp only [W]; repeat rw [ih _ (by omega)]
                 rfl
theorem W_big (k : Nat) : ∀ s, 9 * (k : Int) < s → W k s = 0 := by
  induction k with
  | zero => intro s h; simp only [W]; rw [if_neg (by omega)]
  | succ k ih => intro s h; simp only [W]; repeat rw [ih _ (by omega)]
                 rfl
theorem W_nonneg (k : Nat) : ∀ s, 0 ≤ W k s := by
  induction k with
  | zero => intro s; simp only [W]; split <;> omega
  | succ k ih => intro s; simp only [W]; have h := fun x => ih (s - x); have h0 := ih s; have h1 := h 1; have h2 := h 2; have h3 := h 3; have h4 := h 4; have h5 := h 5; have h6 := h 6; have h7 := h 7; have h8 := h 8; have h9 := h 9; omega
theorem W_le (k : Nat) : ∀ s, W k s ≤ 10 ^ k := by
  induction k with
  | zero => intro s; simp only [W]; split <;> simp
  | succ k ih => intro s; simp only [W]; have h := fun x => ih (s - x); have h0 := ih s; have h1 := h 1; have h2 := h 2; have h3 := h 3; have h4 := h 4; have h5 := h 5; have h6 := h 6; have h7 := h 7; have h8 := h 8; have h9 := h 9; rw [Int.pow_succ]; omega
/-- how many numbers below n have a sum -/
def cnt (s : Int) : Nat → Int
  | 0 => 0
  | n + 1 => cnt s n + if ds n = s then 1 else 0
theorem cnt_mono (s : Int) {m n : Nat} (h : m ≤ n) : cnt s m ≤ cnt s n := by
  induction n with
  | zero => have : m = 0 := by omega
            subst this; exact Int.le_refl _
  | succ n ih =>
    by_cases e : m = n + 1
    · subst e; exact Int.le_refl _
    · have := ih (by omega); simp only [cnt]; split <;> omega
theorem cnt_nonneg (s : Int) (n : Nat) : 0 ≤ cnt s n := cnt_mono s (m := 0) (Nat.zero_le n)
theorem cnt_le (s : Int) (n : Nat) : cnt s n ≤ n := by
  induction n with
  | zero => simp [cnt]
  | succ n ih => simp only [cnt]; split <;> omega
theorem cnt_hit {s : Int} {n : Nat} (h : ds n = s) : cnt s (n + 1) = cnt s n + 1 := by simp only [cnt]; rw [if_pos h]
theorem cnt_miss {s : Int} {n : Nat} (h : ds n ≠ s) : cnt s (n + 1) = cnt s n := by simp only [cnt]; rw [if_neg h]; omega
theorem cnt_gap {s : Int} {m n : Nat} (h : m ≤ n) (hn : ∀ x, m ≤ x → x < n → ds x ≠ s) : cnt s n = cnt s m := by
  induction n with
  | zero => have : m = 0 := by omega
            subst this; rfl
  | succ n ih =>
    by_cases e : m = n + 1
    · subst e; rfl
    · rw [cnt_miss (hn n (by omega) (by omega)), ih (by omega) (fun x h1 h2 => hn x h1 (by omega))]
theorem cnt_inj {s : Int} {m n : Nat} (hm : ds m = s) (hn : ds n = s) (h : cnt s m = cnt s n) : m = n := by
  rcases Nat.lt_trichotomy m n with h1 | h1 | h1
  · have := cnt_mono s (m := m + 1) (n := n) h1; rw [cnt_hit hm] at this; omega
  · exact h1
  · have := cnt_mono s (m := n + 1) (n := m) h1; rw [cnt_hit hn] at this; omega
theorem cnt_block (k : Nat) : ∀ (s : Int) (a : Nat), cnt s (10 ^ k * (a + 1)) = cnt s (10 ^ k * a) + W k (s - ds a) := by
  induction k with
  | zero =>
    intro s a
    rw [Nat.pow_zero, Nat.one_mul, Nat.one_mul]
    simp only [W, cnt]
    by_cases h : ds a = s
    · rw [if_pos h, if_pos (by omega)]
    · rw [if_neg h, if_neg (by omega)]
  | succ k ih =>
    intro s a
    have st : ∀ d, d < 10 → cnt s (10 ^ k * (10 * a + d + 1)) = cnt s (10 ^ k * (10 * a + d)) + W k (s - ds a - d) := fun d hd => by
      rw [ih s (10 * a + d), ds_cons a d hd, show s - (ds a + (d : Int)) = s - ds a - d by omega]
    have e0 : 10 ^ (k + 1) * a = 10 ^ k * (10 * a + 0) := by rw [Nat.pow_succ, Nat.mul_assoc]; rfl
    have e1 : 10 ^ (k + 1) * (a + 1) = 10 ^ k * (10 * a + 9 + 1) := by rw [Nat.pow_succ, Nat.mul_assoc]; congr 1
    rw [e0, e1, st 9 (by omega), st 8 (by omega), st 7 (by omega), st 6 (by omega), st 5 (by omega), st 4 (by omega), st 3 (by omega), st 2 (by omega), st 1 (by omega), st 0 (by omega)]
    simp only [W]
    simp
    omega

/-! ### texts of digits: sums, numbers -/
def dv (b : UInt8) : Int := ((b.toNat : Int) - 48) % 256
theorem dv_range (b : UInt8) : 0 ≤ dv b ∧ dv b ≤ 255 := by unfold dv; omega
def lsum : List UInt8 → Int
  | [] => 0
  | b :: l => dv b + lsum l
theorem lsum_range (l : List UInt8) : 0 ≤ lsum l ∧ lsum l ≤ 255 * l.length := by
  induction l with
  | nil => simp [lsum]
  | cons b l ih => have := dv_range b; simp only [lsum, List.length_cons]; omega
theorem lsum_append (a b : List UInt8) : lsum (a ++ b) = lsum a + lsum b := by
  induction a with
  | nil => simp [lsum]
  | cons x a ih => simp only [List.cons_append, lsum, ih]; omega
def dch (d : Nat) : UInt8 := UInt8.ofNat (48 + d)
theorem dch_nat {d : Nat} (h : d < 10) : (dch d).toNat = 48 + d := by unfold dch; rw [UInt8.toNat_ofNat']; omega
theorem dv_dch {d : Nat} (h : d < 10) : dv (dch d) = d := by unfold dv; rw [dch_nat h]; omega
/-- k digits of n, zeros in front -/
def pad : Nat → Nat → List UInt8
  | 0, _ => []
  | k + 1, n => pad k (n / 10) ++ [dch (n % 10)]
theorem pad_length (k : Nat) : ∀ n, (pad k n).length = k := by
  induction k with
  | zero => intro n; rfl
  | succ k ih => intro n; simp [pad, ih]
theorem pad_zero (k : Nat) : pad k 0 = List.replicate k 48 := by
  induction k with
  | zero => rfl
  | succ k ih => rw [List.replicate_succ', ← ih]; rfl
theorem pad_take (k : Nat) : ∀ (j n : Nat), (pad (k + j) n).take k = pad k (n / 10 ^ j) := by
  intro j
  induction j with
  | zero => intro n; rw [Nat.add_zero, List.take_of_length_le (by rw [pad_length]; exact Nat.le_refl _)]; simp
  | succ j ih =>
    intro n
    rw [show k + (j + 1) = (k + j) + 1 by omega]
    simp only [pad]
    rw [List.take_append_of_le_length (by rw [pad_length]; omega), ih, Nat.div_div_eq_div_mul, Nat.pow_succ, Nat.mul_comm]
theorem pad_drop (j : Nat) : ∀ (k n : Nat), (pad (k + j) n).drop k = pad j (n % 10 ^ j) := by
  induction j with
  | zero => intro k n; rw [Nat.add_zero, List.drop_eq_nil_of_le (by rw [pad_length]; exact Nat.le_refl _)]; rfl
  | succ j ih =>
    intro k n
    rw [show k + (j + 1) = (k + j) + 1 by omega]
    simp only [pad]
    rw [List.drop_append_of_le_length (by rw [pad_length]; omega), ih]
    congr 1
    · congr 1
      rw [Nat.pow_succ, Nat.mul_comm, Nat.mod_mul_right_div_self]
    · congr 2
      rw [Nat.pow_succ, Nat.mul_comm]; exact (Nat.mod_mul_right_mod n 10 (10 ^ j)).symm
theorem pad_get (k n i : Nat) (h : i < (pad k n).length) : (pad k n)[i] = dch (n / 10 ^ (k - 1 - i) % 10) := by
  induction k generalizing n i with
  | zero => simp [pad] at h
  | succ k ih =>
    rw [pad_length] at h
    simp only [pad]
    by_cases c : i < k
    · rw [List.getElem_append_left (by rw [pad_length]; exact c), ih _ _ (by rw [pad_length]; exact c), Nat.div_div_eq_div_mul, show k + 1 - 1 - i = (k - 1 - i) + 1 by omega, Nat.pow_succ, Nat.mul_comm]
    · have : i = k := by omega
      subst this
      rw [List.getElem_append_right (by rw [pad_length]; exact Nat.le_refl _)]
      simp [pad_length]
theorem lsum_pad (k : Nat) : ∀ n, n < 10 ^ k → lsum (pad k n) = ds n := by
  induction k with
  | zero => intro n h; have : n = 0 := by simpa using h
            subst this; rw [ds_small (by omega)]; rfl
  | succ k ih =>
    intro n h
    simp only [pad]
    rw [lsum_append, ih _ (by rw [Nat.pow_succ] at h; omega), ds_step n]
    simp only [lsum, dv_dch (Nat.mod_lt n (by omega : 0 < 10))]; omega
def lnum (a : Int) : List UInt8 → Int
  | [] => a
  | b :: l => lnum (10 * a + dv b) l
theorem lnum_append (l m : List UInt8) : ∀ a, lnum a (l ++ m) = lnum (lnum a l) m := by
  induction l with
  | nil => intro a; rfl
  | cons b l ih => intro a; simp only [List.cons_append, lnum, ih]
theorem lnum_pad (k : Nat) : ∀ n, n < 10 ^ k → lnum 0 (pad k n) = n := by
  induction k with
  | zero => intro n h; have : n = 0 := by simpa using h
            subst this; rfl
  | succ k ih =>
    intro n h
    simp only [pad]
    rw [lnum_append, ih _ (by rw [Nat.pow_succ] at h; omega)]
    simp only [lnum, dv_dch (Nat.mod_lt n (by omega : 0 < 10))]; omega
theorem dec_pad (n : Nat) : Lib.decDigits n = pad (Lib.nDigits n) n := by
  induction n using Nat.strongRecOn with
  | _ n ih =>
    by_cases h : n < 10
    · rw [Lib.decDigits, dif_pos h, Lib.nDigits_small h]; simp [pad, dch, Nat.mod_eq_of_lt h]
    · rw [Lib.decDigits, dif_neg h, Lib.nDigits_big h, ih _ (by omega)]; rfl
theorem pad_front (j k n : Nat) (h : n < 10 ^ k) : pad (j + k) n = List.replicate j 48 ++ pad k n := by
  induction k generalizing n with
  | zero => have : n = 0 := by simpa using h
            subst this; simp [pad, pad_zero]
  | succ k ih =>
    rw [show j + (k + 1) = (j + k) + 1 by omega]
    simp only [pad]
    rw [ih _ (by rw [Nat.pow_succ] at h; omega), List.append_assoc]

/-! ### lucky tickets, counted -/
def lky (h m : Nat) : Bool := decide (ds (m / 10 ^ h) = ds (m % 10 ^ h))
def cntL (h : Nat) : Nat → Int
  | 0 => 0
  | n + 1 => cntL h n + if lky h n = true then 1 else 0
theorem cntL_mono (h : Nat) {m n : Nat} (hm : m ≤ n) : cntL h m ≤ cntL h n := by
  induction n with
  | zero => obtain rfl : m = 0 := by omega
            exact Int.le_refl _
  | succ n ih =>
    by_cases e : m = n + 1
    · subst e; exact Int.le_refl _
    · have := ih (by omega); simp only [cntL]; split <;> omega
theorem cntL_nonneg (h n : Nat) : 0 ≤ cntL h n := cntL_mono h (m := 0) (Nat.zero_le n)
theorem cntL_le (h n : Nat) : cntL h n ≤ n := by
  induction n with
  | zero => simp [cntL]
  | succ n ih => simp only [cntL]; split <;> omega
theorem cntL_hit {h n : Nat} (e : lky h n = true) : cntL h (n + 1) = cntL h n + 1 := by simp only [cntL]; rw [if_pos e]
theorem cntL_miss {h n : Nat} (e : ¬ lky h n = true) : cntL h (n + 1) = cntL h n := by simp only [cntL]; rw [if_neg e]; omega
theorem cntL_inj {h m n : Nat} (hm : lky h m = true) (hn : lky h n = true) (e : cntL h m = cntL h n) : m = n := by
  rcases Nat.lt_trichotomy m n with h1 | h1 | h1
  · have := cntL_mono h (m := m + 1) (n := n) h1; rw [cntL_hit hm] at this; omega
  · exact h1
  · have := cntL_mono h (m := n + 1) (n := m) h1; rw [cntL_hit hn] at this; omega
theorem cntL_lt_of {h m n : Nat} (e : cntL h m < cntL h n) : m < n := by
  rcases Nat.lt_or_ge m n with c | c
  · exact c
  · have := cntL_mono h c; omega
/-- the numbers with so many digits more, before which a sum stands -/
def DD : Nat → Nat → Int → Int
  | 0, h, x => W h x
  | k + 1, h, x => DD k h x + DD k h (x + 1) + DD k h (x + 2) + DD k h (x + 3) + DD k h (x + 4) + DD k h (x + 5) + DD k h (x + 6) + DD k h (x + 7) + DD k h (x + 8) + DD k h (x + 9)
/-- how many lucky ones begin with j digits -/
def CL (h j b : Nat) : Int := if h ≤ j then W (2 * h - j) (ds (b / 10 ^ (j - h)) - ds (b % 10 ^ (j - h))) else DD (h - j) h (ds b)
theorem p10n (k : Nat) : 0 < 10 ^ k := Nat.pow_pos (by decide)
theorem div_cons (b d q : Nat) (hd : d < 10) : (10 * b + d) / 10 ^ (q + 1) = b / 10 ^ q ∧ (10 * b + d) % 10 ^ (q + 1) = 10 * (b % 10 ^ q) + d := by
  constructor
  · rw [Nat.pow_succ, Nat.mul_comm (10 ^ q), ← Nat.div_div_eq_div_mul, show (10 * b + d) / 10 = b by omega]
  · rw [Nat.pow_succ, Nat.mul_comm (10 ^ q), Nat.mod_mul, show (10 * b + d) % 10 = d by omega, show (10 * b + d) / 10 = b by omega]; omega
theorem CL_step (h j b r : Nat) (hj : j + (r + 1) = 2 * h) : CL h j b = CL h (j + 1) (10 * b + 0) + CL h (j + 1) (10 * b + 1) + CL h (j + 1) (10 * b + 2) + CL h (j + 1) (10 * b + 3) + CL h (j + 1) (10 * b + 4) + CL h (j + 1) (10 * b + 5) + CL h (j + 1) (10 * b + 6) + CL h (j + 1) (10 * b + 7) + CL h (j + 1) (10 * b + 8) + CL h (j + 1) (10 * b + 9) := by
  by_cases c : h ≤ j
  · have e : ∀ d : Nat, d < 10 → CL h (j + 1) (10 * b + d) = W r (ds (b / 10 ^ (j - h)) - ds (b % 10 ^ (j - h)) - d) := fun d hd => by
      have hh := div_cons b d (j - h) hd
      unfold CL
      rw [if_pos (by omega), show j + 1 - h = (j - h) + 1 by omega, hh.1, hh.2, ds_cons _ d hd, show 2 * h - (j + 1) = r by omega]
      congr 1; omega
    rw [e 0 (by decide), e 1 (by decide), e 2 (by decide), e 3 (by decide), e 4 (by decide), e 5 (by decide), e 6 (by decide), e 7 (by decide), e 8 (by decide), e 9 (by decide)]
    unfold CL
    rw [if_pos c, show 2 * h - j = r + 1 by omega]
    simp only [W]
    simp
  · have e : ∀ d : Nat, d < 10 → CL h (j + 1) (10 * b + d) = DD (h - (j + 1)) h (ds b + d) := fun d hd => by
      unfold CL
      by_cases c2 : h ≤ j + 1
      · obtain rfl : h = j + 1 := by omega
        rw [if_pos c2, Nat.sub_self, Nat.pow_zero, Nat.div_one, Nat.mod_one, ds_cons b d hd, ds_small (by decide : 0 < 10)]
        simp only [DD]
        rw [show 2 * (j + 1) - (j + 1) = j + 1 by omega]
        congr 1; omega
      · rw [if_neg c2, ds_cons b d hd]
    rw [e 0 (by decide), e 1 (by decide), e 2 (by decide), e 3 (by decide), e 4 (by decide), e 5 (by decide), e 6 (by decide), e 7 (by decide), e 8 (by decide), e 9 (by decide)]
    unfold CL
    rw [if_neg c, show h - j = (h - (j + 1)) + 1 by omega]
    simp only [DD]
    simp
theorem cntL_block (h : Nat) : ∀ (r j b : Nat), j + r = 2 * h → cntL h (10 ^ r * (b + 1)) = cntL h (10 ^ r * b) + CL h j b := by
  intro r
  induction r with
  | zero =>
    intro j b hj
    rw [Nat.pow_zero, Nat.one_mul, Nat.one_mul]
    simp only [cntL]
    have e2 : CL h j b = if ds (b / 10 ^ h) = ds (b % 10 ^ h) then 1 else 0 := by
      unfold CL
      rw [if_pos (show h ≤ j by omega), show 2 * h - j = 0 by omega, show j - h = h by omega]
      simp only [W]
      by_cases e : ds (b / 10 ^ h) = ds (b % 10 ^ h)
      · rw [if_pos e, if_pos (by omega)]
      · rw [if_neg e, if_neg (by omega)]
    rw [e2]
    unfold lky
    simp only [decide_eq_true_eq]
  | succ r ih =>
    intro j b hj
    have st : ∀ d, cntL h (10 ^ r * (10 * b + d + 1)) = cntL h (10 ^ r * (10 * b + d)) + CL h (j + 1) (10 * b + d) := fun d => ih (j + 1) (10 * b + d) (by omega)
    have e0 : 10 ^ (r + 1) * b = 10 ^ r * (10 * b + 0) := by rw [Nat.pow_succ, Nat.mul_assoc]; rfl
    have e1 : 10 ^ (r + 1) * (b + 1) = 10 ^ r * (10 * b + 9 + 1) := by rw [Nat.pow_succ, Nat.mul_assoc]; congr 1
    rw [e0, e1, st 9, st 8, st 7, st 6, st 5, st 4, st 3, st 2, st 1, st 0, CL_step h j b r (by omega)]
    omega
theorem W_sym (k : Nat) : ∀ s, W k s = W k (9 * k - s) := by
  induction k with
  | zero => intro s; simp only [W]; by_cases c : s = 0
            · rw [if_pos c, if_pos (by omega)]
            · rw [if_neg c, if_neg (by omega)]
  | succ k ih =>
    intro s
    simp only [W]
    rw [ih s, ih (s - 1), ih (s - 2), ih (s - 3), ih (s - 4), ih (s - 5), ih (s - 6), ih (s - 7), ih (s - 8), ih (s - 9)]
    have e : ∀ a b : Int, a = b → W k a = W k b := fun a b h => by rw [h]
    rw [e (9 * (k : Int) - s) (9 * ((k + 1 : Nat) : Int) - s - 9) (by omega), e (9 * (k : Int) - (s - 1)) (9 * ((k + 1 : Nat) : Int) - s - 8) (by omega), e (9 * (k : Int) - (s - 2)) (9 * ((k + 1 : Nat) : Int) - s - 7) (by omega), e (9 * (k : Int) - (s - 3)) (9 * ((k + 1 : Nat) : Int) - s - 6) (by omega), e (9 * (k : Int) - (s - 4)) (9 * ((k + 1 : Nat) : Int) - s - 5) (by omega), e (9 * (k : Int) - (s - 5)) (9 * ((k + 1 : Nat) : Int) - s - 4) (by omega), e (9 * (k : Int) - (s - 6)) (9 * ((k + 1 : Nat) : Int) - s - 3) (by omega), e (9 * (k : Int) - (s - 7)) (9 * ((k + 1 : Nat) : Int) - s - 2) (by omega), e (9 * (k : Int) - (s - 8)) (9 * ((k + 1 : Nat) : Int) - s - 1) (by omega), e (9 * (k : Int) - (s - 9)) (9 * ((k + 1 : Nat) : Int) - s) (by omega)]
    omega
theorem W_zero (k : Nat) : W k 0 = 1 := by
  induction k with
  | zero => rfl
  | succ k ih => simp only [W]; rw [ih, W_neg k (0 - 1) (by decide), W_neg k (0 - 2) (by decide), W_neg k (0 - 3) (by decide), W_neg k (0 - 4) (by decide), W_neg k (0 - 5) (by decide), W_neg k (0 - 6) (by decide), W_neg k (0 - 7) (by decide), W_neg k (0 - 8) (by decide), W_neg k (0 - 9) (by decide)]; rfl
/-! sums -/
def sm (f : Nat → Int) : Nat → Int
  | 0 => 0
  | n + 1 => sm f n + f n
theorem sm_congr {f g : Nat → Int} {n : Nat} (h : ∀ i, i < n → f i = g i) : sm f n = sm g n := by
  induction n with
  | zero => rfl
  | succ n ih => rw [sm, sm, ih (fun i hi => h i (by omega)), h n (by omega)]
theorem sm_zero {f : Nat → Int} {n : Nat} (h : ∀ i, i < n → f i = 0) : sm f n = 0 := by
  induction n with
  | zero => rfl
  | succ n ih => rw [sm, ih (fun i hi => h i (by omega)), h n (by omega)]; rfl
theorem sm_add (f g : Nat → Int) (n : Nat) : sm (fun i => f i + g i) n = sm f n + sm g n := by
  induction n with
  | zero => rfl
  | succ n ih => simp only [sm]; rw [ih]; omega
theorem sm_shift (f : Nat → Int) (d n : Nat) : sm f (d + n) = sm f d + sm (fun i => f (d + i)) n := by
  induction n with
  | zero => rw [Nat.add_zero, sm]; omega
  | succ n ih => rw [← Nat.add_assoc, sm, ih, sm]; omega
theorem sm_more {f : Nat → Int} {n m : Nat} (h : n ≤ m) (hz : ∀ i, n ≤ i → f i = 0) : sm f m = sm f n := by
  obtain ⟨e, rfl⟩ : ∃ e, m = n + e := ⟨m - n, by omega⟩
  rw [sm_shift, sm_zero (f := fun i => f (n + i)) (fun i _ => hz (n + i) (by omega))]; omega
def AA (k h : Nat) (x : Int) (N : Nat) : Int := sm (fun s => W k s * W h ((s : Int) + x)) N
theorem AA_cut (k h : Nat) (x : Int) (N : Nat) (hN : 9 * k + 1 ≤ N) : AA k h x N = AA k h x (9 * k + 1) :=
  sm_more hN (fun i hi => by rw [W_big k i (by omega)]; exact Int.zero_mul _)
theorem AA_shift (k h : Nat) (x : Int) (d N : Nat) : sm (fun s => W k ((s : Int) - d) * W h ((s : Int) + x)) (d + N) = AA k h (x + d) N := by
  rw [sm_shift, sm_zero (fun i hi => by rw [W_neg k _ (by omega)]; exact Int.zero_mul _)]
  unfold AA
  rw [Int.zero_add]
  refine sm_congr (fun i _ => ?_)
  rw [show ((d + i : Nat) : Int) - d = (i : Int) by omega, show ((d + i : Nat) : Int) + x = (i : Int) + (x + d) by omega]
theorem AA_succ (k h : Nat) (x : Int) : AA (k + 1) h x (9 * (k + 1) + 1) = AA k h x (9 * k + 1) + AA k h (x + 1) (9 * k + 1) + AA k h (x + 2) (9 * k + 1) + AA k h (x + 3) (9 * k + 1) + AA k h (x + 4) (9 * k + 1) + AA k h (x + 5) (9 * k + 1) + AA k h (x + 6) (9 * k + 1) + AA k h (x + 7) (9 * k + 1) + AA k h (x + 8) (9 * k + 1) + AA k h (x + 9) (9 * k + 1) := by
  have key : ∀ d : Nat, d ≤ 9 → sm (fun s => W k ((s : Int) - d) * W h ((s : Int) + x)) (9 * (k + 1) + 1) = AA k h (x + d) (9 * k + 1) := fun d hd => by
    rw [show 9 * (k + 1) + 1 = d + (9 * (k + 1) + 1 - d) by omega, AA_shift, AA_cut _ _ _ _ (by omega)]
  have k0 := key 0 (by decide)
  have k1 := key 1 (by decide)
  have k2 := key 2 (by decide)
  have k3 := key 3 (by decide)
  have k4 := key 4 (by decide)
  have k5 := key 5 (by decide)
  have k6 := key 6 (by decide)
  have k7 := key 7 (by decide)
  have k8 := key 8 (by decide)
  have k9 := key 9 (by decide)
  simp only [Int.natCast_zero, Int.sub_zero, Int.add_zero] at k0
  rw [show ((1 : Nat) : Int) = 1 from rfl] at k1
  rw [show ((2 : Nat) : Int) = 2 from rfl] at k2
  rw [show ((3 : Nat) : Int) = 3 from rfl] at k3
  rw [show ((4 : Nat) : Int) = 4 from rfl] at k4
  rw [show ((5 : Nat) : Int) = 5 from rfl] at k5
  rw [show ((6 : Nat) : Int) = 6 from rfl] at k6
  rw [show ((7 : Nat) : Int) = 7 from rfl] at k7
  rw [show ((8 : Nat) : Int) = 8 from rfl] at k8
  rw [show ((9 : Nat) : Int) = 9 from rfl] at k9
  rw [← k0, ← k1, ← k2, ← k3, ← k4, ← k5, ← k6, ← k7, ← k8, ← k9, ← sm_add, ← sm_add, ← sm_add, ← sm_add, ← sm_add, ← sm_add, ← sm_add, ← sm_add, ← sm_add]
  unfold AA
  refine sm_congr (fun i _ => ?_)
  simp only [W, Int.add_mul]
theorem DD_sum (h : Nat) : ∀ (k : Nat) (x : Int), DD k h x = AA k h x (9 * k + 1) := by
  intro k
  induction k with
  | zero => intro x; simp [DD, AA, sm, W]
  | succ k ih => intro x; rw [AA_succ]; simp only [DD]; rw [ih, ih, ih, ih, ih, ih, ih, ih, ih, ih]
theorem CL_all (h : Nat) (hh : 0 < h) : CL h 0 0 = AA h h 0 (9 * h + 1) := by
  unfold CL
  rw [if_neg (by omega), ds_small (by decide : 0 < 10), Nat.sub_zero, DD_sum]; rfl
theorem cntL_all (h : Nat) (hh : 0 < h) : cntL h (10 ^ (2 * h)) = AA h h 0 (9 * h + 1) := by
  have := cntL_block h (2 * h) 0 0 (by omega)
  rw [CL_all h hh, Nat.mul_zero, Nat.zero_add, Nat.mul_one] at this
  simp only [cntL] at this
  omega
theorem CL_nonneg (h j b : Nat) (hj : j ≤ 2 * h) : 0 ≤ CL h j b := by
  have h1 := cntL_block h (2 * h - j) j b (by omega)
  have h2 := cntL_mono h (Nat.mul_le_mul_left (10 ^ (2 * h - j)) (Nat.le_succ b))
  rw [show b.succ = b + 1 from rfl] at h2
  omega
theorem CL_self (h m : Nat) : CL h (2 * h) m = if lky h m = true then 1 else 0 := by
  have := cntL_block h 0 (2 * h) m (by omega)
  rw [Nat.pow_zero, Nat.one_mul, Nat.one_mul] at this
  simp only [cntL] at this
  omega

/-! ### lists told by a function -/
def tab (n : Nat) (f : Nat → Int) : List Int := (List.range n).map f
theorem tab_len (n : Nat) (f : Nat → Int) : (tab n f).length = n := by simp [tab]
theorem tab_rd {n : Nat} {f : Nat → Int} {i : Nat} (h : i < n) : rd (tab n f) (i : Int) = f i := by
  unfold rd tab
  rw [Int.toNat_natCast, List.getD_eq_getElem?_getD, List.getElem?_eq_getElem (by simpa using h)]
  simp
theorem tab_set (n : Nat) (f : Nat → Int) (j : Nat) (v : Int) : (tab n f).set j v = tab n (fun i => if i = j then v else f i) := by
  unfold tab
  apply List.ext_getElem
  · simp
  · intro i h1 h2
    rw [List.getElem_set]
    simp only [List.getElem_map, List.getElem_range]
    by_cases c : j = i
    · rw [if_pos c, if_pos c.symm]
    · rw [if_neg c, if_neg (fun e => c e.symm)]
theorem tab_zero (n : Nat) : List.replicate n (0 : Int) = tab n (fun _ => 0) := by
  unfold tab
  apply List.ext_getElem <;> simp
theorem tab_congr {n : Nat} {f g : Nat → Int} (h : ∀ i, i < n → f i = g i) : tab n f = tab n g := by
  unfold tab
  apply List.ext_getElem
  · simp
  · intro i h1 h2
    simp only [List.getElem_map, List.getElem_range]
    exact h i (by simpa using h1)

/-! ### the table of ways -/
theorem p10 (k : Nat) : (10 : Int) ^ k = ((10 ^ k : Nat) : Int) := by rw [Int.natCast_pow]; rfl
theorem p10_le {a b : Nat} (h : a ≤ b) : (10 : Int) ^ a ≤ 10 ^ b := by rw [p10, p10]; exact Int.ofNat_le.mpr (Nat.pow_le_pow_right (by omega) h)
def wl (k : Nat) : List Int := tab (9 * k + 1) (fun i => W k i)
/-- what counts s, s + 1, .. bring to count i, digits below m alone -/
def T (k : Nat) (s i : Int) : Nat → Int
  | 0 => 0
  | m + 1 => T k s i m + if s ≤ i - m then W k (i - m) else 0
theorem T_nonneg (k : Nat) (s i : Int) (m : Nat) : 0 ≤ T k s i m := by
  induction m with
  | zero => exact Int.le_refl _
  | succ m ih => simp only [T]; have := W_nonneg k (i - m); split <;> omega
theorem T_step (k : Nat) (s i : Int) (m : Nat) : T k s i m = T k (s + 1) i m + if s ≤ i ∧ i < s + m then W k s else 0 := by
  induction m with
  | zero => simp only [T]; rw [if_neg (by omega)]; try rfl
  | succ m ih =>
    simp only [T]
    rw [ih]
    by_cases h : i - m = s
    · rw [h, if_pos (Int.le_refl s), if_neg (show ¬ (s + 1 ≤ s) by omega), if_neg (show ¬ (s ≤ i ∧ i < s + m) by omega), if_pos (show s ≤ i ∧ i < s + ((m + 1 : Nat) : Int) by omega)]; try omega
    · by_cases c : s ≤ i ∧ i < s + m
      · rw [if_pos c, if_pos (show s ≤ i ∧ i < s + ((m + 1 : Nat) : Int) by omega)]
        by_cases d : s ≤ i - m
        · rw [if_pos d, if_pos (by omega)]; omega
        · rw [if_neg d, if_neg (by omega)]; omega
      · rw [if_neg c, if_neg (show ¬ (s ≤ i ∧ i < s + ((m + 1 : Nat) : Int)) by omega)]
        by_cases d : s ≤ i - m
        · rw [if_pos d, if_pos (by omega)]; omega
        · rw [if_neg d, if_neg (by omega)]; try omega
theorem T_end (k : Nat) (s i : Int) (m : Nat) (h : 9 * (k : Int) < s) : T k s i m = 0 := by
  induction m with
  | zero => rfl
  | succ m ih =>
    simp only [T]
    rw [ih]
    by_cases c : s ≤ i - m
    · rw [if_pos c, W_big k _ (by omega)]; try rfl
    · rw [if_neg c]; try rfl
theorem T_all (k : Nat) (i : Int) : T k 0 i 10 = W (k + 1) i := by
  have e : ∀ x : Int, (if (0 : Int) ≤ x then W k x else 0) = W k x := fun x => by
    by_cases c : 0 ≤ x
    · rw [if_pos c]
    · rw [if_neg c, W_neg k x (by omega)]
  simp only [T, e, W]
  simp
theorem iways_l2 (N s : Nat) (n : Int) (x9 x10 : Int) (x16 : List Int) (x17 x18 : Int) (hN : s + 10 ≤ N) (hb : N ≤ 1000000) (hn : 0 ≤ n) (hn2 : n ≤ 100000000000000) (r : List Int) :
    ∀ (e d : Nat) (g : Nat → Int), d + e = 10 → (∀ i, s + d ≤ i → 0 ≤ g i ∧ g i ≤ 100000000000000) →
      Ev (fun k => impl_ways.l1 k (tab N (fun i => if s + d ≤ i ∧ i < s + 10 then g i + n else g i)) x9 x10 x16 x17 (wrap64 (x18 + 1))) r →
      Ev (fun k => impl_ways.l2 k (tab N g) (s : Int) n x9 x10 x16 x17 x18 (d : Int)) r := by
  intro e
  induction e with
  | zero =>
    intro d g hd hg h
    refine ev_succ ?_
    simp only [impl_ways.l2]
    refine ev_neg (by omega) ?_
    have : (tab N fun i => if s + d ≤ i ∧ i < s + 10 then g i + n else g i) = tab N g := tab_congr (fun i _ => if_neg (by omega))
    rw [this] at h
    exact h
  | succ e ih =>
    intro d g hd hg h
    refine ev_succ ?_
    simp only [impl_ways.l2]
    have hw : wrap64 ((s : Int) + d) = ((s + d : Nat) : Int) := by rw [wrap_of (by omega) (by omega)]; omega
    rw [hw, tab_len, tab_rd (by omega), Int.toNat_natCast, tab_set, wrap_nat (i := d) (by omega)]
    refine ev_pos (by omega) (ev_pos (by omega) (ev_pos (by omega) ?_))
    have hg1 := hg (s + d) (Nat.le_refl _)
    rw [wrap_of (x := g (s + d) + n) (by omega) (by omega)]
    refine ih (d + 1) (fun i => if i = s + d then g (s + d) + n else g i) (by omega) (fun i hi => ?_) ?_
    · rw [if_neg (by omega)]; exact hg i (by omega)
    · have : (tab N fun i => if s + (d + 1) ≤ i ∧ i < s + 10 then (if i = s + d then g (s + d) + n else g i) + n else (if i = s + d then g (s + d) + n else g i)) = tab N fun i => if s + d ≤ i ∧ i < s + 10 then g i + n else g i := by
        refine tab_congr (fun i _ => ?_)
        by_cases c : i = s + d
        · subst c
          rw [if_neg (by omega), if_pos rfl, if_pos (by omega)]
        · rw [if_neg c]
          by_cases c2 : s + d ≤ i ∧ i < s + 10
          · rw [if_pos (by omega), if_pos c2]
          · rw [if_neg (by omega), if_neg c2]
      rw [this]
      exact h
theorem iways_l1 (q : Nat) (hq : q ≤ 13) (x9 x10 : Int) (r : List Int) (h : Ev (fun k => impl_ways.l0 k (wl (q + 1)) x9 (wrap64 (x10 + 1))) r) :
    ∀ (e s : Nat) (g : Nat → Int), s + e = 9 * q + 1 → (∀ i, 0 ≤ g i ∧ g i + T q s i 10 = W (q + 1) i) →
      Ev (fun k => impl_ways.l1 k (tab (9 * q + 10) g) x9 x10 (wl q) ((9 * q + 1 : Nat) : Int) (s : Int)) r := by
  have hW : ∀ i, W (q + 1) i ≤ 100000000000000 := fun i => by
    have h1 := W_le (q + 1) i
    have h2 : (10 : Int) ^ (q + 1) ≤ 10 ^ 14 := p10_le (by omega)
    omega
  intro e
  induction e with
  | zero =>
    intro s g hs hg
    refine ev_succ ?_
    simp only [impl_ways.l1]
    refine ev_neg (by omega) ?_
    have : tab (9 * q + 10) g = wl (q + 1) := by
      unfold wl
      rw [show 9 * (q + 1) + 1 = 9 * q + 10 by omega]
      refine tab_congr (fun i _ => ?_)
      have := (hg i).2
      rw [T_end q s i 10 (by omega)] at this
      omega
    rw [this]
    exact h
  | succ e ih =>
    intro s g hs hg
    refine ev_succ ?_
    simp only [impl_ways.l1]
    have hl : (wl q).length = 9 * q + 1 := tab_len _ _
    have hr : rd (wl q) (s : Int) = W q s := tab_rd (by omega)
    rw [hl, hr]
    refine ev_pos (by omega) (ev_pos (by omega) (ev_pos (by omega) ?_))
    have hn := W_nonneg q s
    have hn2 : W q s ≤ 100000000000000 := by
      have h1 := W_le q s
      have h2 : (10 : Int) ^ q ≤ 10 ^ 14 := p10_le (by omega)
      omega
    have hT : ∀ i : Nat, 0 ≤ T q s i 10 := fun i => T_nonneg q s i 10
    have key := iways_l2 (9 * q + 10) s (W q s) x9 x10 (wl q) ((9 * q + 1 : Nat) : Int) (s : Int) (by omega) (by omega) hn hn2 r 10 0 g (by omega) (fun i _ => ⟨(hg i).1, by have := (hg i).2; have := hT i; have := hW i; omega⟩)
    refine key ?_
    have hw : wrap64 ((s : Int) + 1) = ((s + 1 : Nat) : Int) := wrap_nat (by omega)
    rw [hw]
    refine ih (s + 1) _ (by omega) (fun i => ?_)
    have h1 := hg i
    have h2 := T_step q s i 10
    have h3 : ((s + 1 : Nat) : Int) = (s : Int) + 1 := by omega
    rw [h3]
    by_cases c : s + 0 ≤ i ∧ i < s + 10
    · rw [if_pos c]
      rw [if_pos (by omega)] at h2
      omega
    · rw [if_neg c]
      rw [if_neg (by omega)] at h2
      omega
theorem iways_l0 (p : Nat) (hp : p ≤ 13) : ∀ (e j : Nat), j + e = p → Ev (fun k => impl_ways.l0 k (wl j) (p : Int) (j : Int)) (wl p) := by
  intro e
  induction e with
  | zero =>
    intro j hj
    refine ev_succ ?_
    simp only [impl_ways.l0]
    have : j = p := by omega
    subst this
    exact ev_neg (by omega) (ev_eq fun _ => rfl)
  | succ e ih =>
    intro j hj
    refine ev_succ ?_
    simp only [impl_ways.l0]
    have hl : (wl j).length = 9 * j + 1 := tab_len _ _
    have hw : wrap64 (((9 * j + 1 : Nat) : Int) + 9) = ((9 * j + 10 : Nat) : Int) := by rw [wrap_of (by omega) (by omega)]; omega
    rw [hl, hw, Int.toNat_natCast, tab_zero]
    refine ev_pos (by omega) (ev_pos (by omega) (ev_pos (by omega) ?_))
    refine iways_l1 j (by omega) (p : Int) (j : Int) (wl p) ?_ (9 * j + 1) 0 (fun _ => 0) (by omega) (fun i => ⟨Int.le_refl 0, ?_⟩)
    · rw [wrap_nat (i := j) (by omega)]
      exact ih (j + 1) (by omega)
    · have := T_all j i
      simp only [Int.zero_add]
      exact this
theorem iways_ev (p : Nat) (hp : p ≤ 13) : Ev (fun k => impl_ways.f k (p : Int)) (wl p) := by
  unfold impl_ways.f
  exact iways_l0 p hp p 0 (by omega)

theorem sways_l2 (N s : Nat) (n : Int) (x0 : Int) (x16 : List Int) (x17 x18 : Int) (hN : s + 10 ≤ N) (hb : N ≤ 1000000) (hn : 0 ≤ n) (hn2 : n ≤ 100000000000000) (r : List Int) :
    ∀ (e d : Nat) (g : Nat → Int), d + e = 10 → (∀ i, s + d ≤ i → 0 ≤ g i ∧ g i ≤ 100000000000000) →
      Ev (fun k => spec_tkWays.l1 k x0 (tab N (fun i => if s + d ≤ i ∧ i < s + 10 then g i + n else g i)) x16 x17 (wrap64 (x18 + 1))) r →
      Ev (fun k => spec_tkWays.l2 k x0 (tab N g) (s : Int) n (d : Int) x16 x17 x18) r := by
  intro e
  induction e with
  | zero =>
    intro d g hd hg h
    refine ev_succ ?_
    simp only [spec_tkWays.l2]
    refine ev_neg (by omega) ?_
    have : (tab N fun i => if s + d ≤ i ∧ i < s + 10 then g i + n else g i) = tab N g := tab_congr (fun i _ => if_neg (by omega))
    rw [this] at h
    exact h
  | succ e ih =>
    intro d g hd hg h
    refine ev_succ ?_
    simp only [spec_tkWays.l2]
    have hw : wrap64 ((s : Int) + d) = ((s + d : Nat) : Int) := by rw [wrap_of (by omega) (by omega)]; omega
    rw [hw, tab_len, tab_rd (by omega), Int.toNat_natCast, tab_set, wrap_nat (i := d) (by omega)]
    refine ev_pos (by omega) (ev_pos (by omega) (ev_pos (by omega) ?_))
    have hg1 := hg (s + d) (Nat.le_refl _)
    rw [wrap_of (x := g (s + d) + n) (by omega) (by omega)]
    refine ih (d + 1) (fun i => if i = s + d then g (s + d) + n else g i) (by omega) (fun i hi => ?_) ?_
    · rw [if_neg (by omega)]; exact hg i (by omega)
    · have : (tab N fun i => if s + (d + 1) ≤ i ∧ i < s + 10 then (if i = s + d then g (s + d) + n else g i) + n else (if i = s + d then g (s + d) + n else g i)) = tab N fun i => if s + d ≤ i ∧ i < s + 10 then g i + n else g i := by
        refine tab_congr (fun i _ => ?_)
        by_cases c : i = s + d
        · subst c
          rw [if_neg (by omega), if_pos rfl, if_pos (by omega)]
        · rw [if_neg c]
          by_cases c2 : s + d ≤ i ∧ i < s + 10
          · rw [if_pos (by omega), if_pos c2]
          · rw [if_neg (by omega), if_neg c2]
      rw [this]
      exact h
theorem sways_l1 (q : Nat) (hq : q ≤ 13) (x0 : Int) (r : List Int) (h : Ev (fun k => spec_tkWays.l0 k (wrap64 (x0 - 1)) (wl (q + 1))) r) :
    ∀ (e s : Nat) (g : Nat → Int), s + e = 9 * q + 1 → (∀ i, 0 ≤ g i ∧ g i + T q s i 10 = W (q + 1) i) →
      Ev (fun k => spec_tkWays.l1 k x0 (tab (9 * q + 10) g) (wl q) ((9 * q + 1 : Nat) : Int) (s : Int)) r := by
  have hW : ∀ i, W (q + 1) i ≤ 100000000000000 := fun i => by
    have h1 := W_le (q + 1) i
    have h2 : (10 : Int) ^ (q + 1) ≤ 10 ^ 14 := p10_le (by omega)
    omega
  intro e
  induction e with
  | zero =>
    intro s g hs hg
    refine ev_succ ?_
    simp only [spec_tkWays.l1]
    refine ev_neg (by omega) ?_
    have : tab (9 * q + 10) g = wl (q + 1) := by
      unfold wl
      rw [show 9 * (q + 1) + 1 = 9 * q + 10 by omega]
      refine tab_congr (fun i _ => ?_)
      have := (hg i).2
      rw [T_end q s i 10 (by omega)] at this
      omega
    rw [this]
    exact h
  | succ e ih =>
    intro s g hs hg
    refine ev_succ ?_
    simp only [spec_tkWays.l1]
    have hl : (wl q).length = 9 * q + 1 := tab_len _ _
    have hr : rd (wl q) (s : Int) = W q s := tab_rd (by omega)
    rw [hl, hr]
    refine ev_pos (by omega) (ev_pos (by omega) (ev_pos (by omega) ?_))
    have hn := W_nonneg q s
    have hn2 : W q s ≤ 100000000000000 := by
      have h1 := W_le q s
      have h2 : (10 : Int) ^ q ≤ 10 ^ 14 := p10_le (by omega)
      omega
    have hT : ∀ i : Nat, 0 ≤ T q s i 10 := fun i => T_nonneg q s i 10
    have key := sways_l2 (9 * q + 10) s (W q s) x0 (wl q) ((9 * q + 1 : Nat) : Int) (s : Int) (by omega) (by omega) hn hn2 r 10 0 g (by omega) (fun i _ => ⟨(hg i).1, by have := (hg i).2; have := hT i; have := hW i; omega⟩)
    refine key ?_
    have hw : wrap64 ((s : Int) + 1) = ((s + 1 : Nat) : Int) := wrap_nat (by omega)
    rw [hw]
    refine ih (s + 1) _ (by omega) (fun i => ?_)
    have h1 := hg i
    have h2 := T_step q s i 10
    have h3 : ((s + 1 : Nat) : Int) = (s : Int) + 1 := by omega
    rw [h3]
    by_cases c : s + 0 ≤ i ∧ i < s + 10
    · rw [if_pos c]
      rw [if_pos (by omega)] at h2
      omega
    · rw [if_neg c]
      rw [if_neg (by omega)] at h2
      omega
theorem sways_l0 (p : Nat) (hp : p ≤ 13) : ∀ (e j : Nat), j + e = p → Ev (fun k => spec_tkWays.l0 k (e : Int) (wl j)) (wl p) := by
  intro e
  induction e with
  | zero =>
    intro j hj
    refine ev_succ ?_
    simp only [spec_tkWays.l0]
    have : j = p := by omega
    subst this
    exact ev_neg (by omega) (ev_eq fun _ => rfl)
  | succ e ih =>
    intro j hj
    refine ev_succ ?_
    simp only [spec_tkWays.l0]
    have hl : (wl j).length = 9 * j + 1 := tab_len _ _
    have hw : wrap64 (((9 * j + 1 : Nat) : Int) + 9) = ((9 * j + 10 : Nat) : Int) := by rw [wrap_of (by omega) (by omega)]; omega
    rw [hl, hw, Int.toNat_natCast, tab_zero]
    refine ev_pos (by omega) (ev_pos (by omega) (ev_pos (by omega) ?_))
    refine sways_l1 j (by omega) ((e + 1 : Nat) : Int) (wl p) ?_ (9 * j + 1) 0 (fun _ => 0) (by omega) (fun i => ⟨Int.le_refl 0, ?_⟩)
    · rw [show wrap64 (((e + 1 : Nat) : Int) - 1) = (e : Int) by rw [wrap_of (by omega) (by omega)]; omega]
      exact ih (j + 1) (by omega)
    · have := T_all j i
      simp only [Int.zero_add]
      exact this
theorem sways_ev (p : Nat) (hp : p ≤ 13) : Ev (fun k => spec_tkWays.f k (p : Int)) (wl p) := by
  unfold spec_tkWays.f
  exact sways_l0 p hp p 0 (by omega)
theorem nDig_le (n : Nat) : ∀ k, 0 < k → n < 10 ^ k → Lib.nDigits n ≤ k := by
  induction n using Nat.strongRecOn with
  | _ n ih =>
    intro k hk h
    by_cases c : n < 10
    · rw [Lib.nDigits_small c]; exact hk
    · rw [Lib.nDigits_big c]
      obtain ⟨k, rfl⟩ : ∃ j, k = j + 1 := ⟨k - 1, by omega⟩
      have hk1 : 0 < k := by
        rcases Nat.eq_zero_or_pos k with e | e
        · subst e; simp at h; omega
        · exact e
      have := ih (n / 10) (by omega) k hk1 (by rw [Nat.pow_succ] at h; omega)
      omega

/-! ### the reference's own decimals -/
theorem strOne (x : Int) (h0 : 0 ≤ x) (h : x < 256) : strOfNums [x] = (⟨[UInt8.ofNat x.toNat].toArray⟩ : ByteArray) := by
  unfold strOfNums
  simp
theorem l1Num_ev (n : Nat) (hn : n ≤ 9223372036854775807) : Ev (fun k => spec_l1Num.f k (n : Int)) ⟨(Lib.decDigits n).toArray⟩ := by
  induction n using Nat.strongRecOn with
  | _ n ih =>
    refine ev_succ ?_
    simp only [spec_l1Num.f]
    by_cases h : n < 10
    · refine ev_pos (by omega) (ev_eq fun _ => ?_)
      have e : wrap64 (48 + (n : Int)) % 256 = 48 + (n : Int) := by rw [wrap_of (by omega) (by omega)]; omega
      rw [e, strOne _ (by omega) (by omega), Lib.decDigits_one h, show (48 + (n : Int)).toNat = 48 + n by omega]
    · refine ev_neg (by omega) ?_
      have e1 : wrap64 (Int.tdiv (n : Int) 10) = ((n / 10 : Nat) : Int) := by
        rw [Int.tdiv_eq_ediv_of_nonneg (by omega), wrap_of (by omega) (by omega)]; omega
      rw [e1]
      have hd := ih (n / 10) (by omega) (by omega)
      refine Ev.bind hd (ev_eq fun _ => ?_)
      have e2 : Int.tmod (n : Int) 10 = ((n % 10 : Nat) : Int) := by rw [Int.tmod_eq_emod_of_nonneg (by omega)]; omega
      have e3 : wrap64 (48 + ((n % 10 : Nat) : Int)) % 256 = 48 + ((n % 10 : Nat) : Int) := by rw [wrap_of (by omega) (by omega)]; omega
      rw [e2, e3]
      simp only [Option.bind_some]
      rw [strOne _ (by omega) (by omega), show (48 + ((n % 10 : Nat) : Int)).toNat = 48 + n % 10 by omega]
      have hl := nDig_le (n / 10) 19 (by omega) (by omega)
      rw [mk_size, mk_size, Lib.decDigits_length, if_pos (by simp; omega), mk_append]
      congr 3
      rw [Lib.decDigits.eq_1 n, dif_neg h]

/-! ### the program's digit sum -/
theorem isumOf_loop (t : ByteArray) (hs : t.size ≤ 1099511627776) : ∀ (d i : Nat) (x : Int), i + d = t.size → 0 ≤ x → x ≤ 255 * i →
    Ev (fun k => impl_sumOf.l0 k t x (t.size : Int) (i : Int)) (x + lsum (t.data.toList.drop i)) := by
  intro d
  induction d with
  | zero =>
    intro i x hi _ _
    refine ev_succ ?_
    simp only [impl_sumOf.l0]
    rw [List.drop_eq_nil_of_le (by rw [size_len]; omega)]
    exact ev_neg (by omega) (ev_eq fun _ => by simp [lsum])
  | succ d ih =>
    intro i x hi h0 h1
    refine ev_succ ?_
    simp only [impl_sumOf.l0]
    have hlt : i < t.data.toList.length := by rw [size_len]; omega
    rw [bt_get t i hlt, List.drop_eq_getElem_cons hlt, wrap_nat (by omega)]
    have hd := dv_range (t.data.toList[i])
    have e1 : ((t.data.toList[i].toNat : Int) - 48) % 256 = dv (t.data.toList[i]) := rfl
    rw [e1, wrap_of (by omega) (by omega)]
    refine ev_pos (by omega) (ev_pos (by omega) (ev_pos (by omega) ?_))
    simp only [lsum]
    rw [← Int.add_assoc]
    exact ih (i + 1) _ (by omega) (by omega) (by omega)
theorem isumOf_ev (t : ByteArray) (hs : t.size ≤ 1099511627776) : Ev (fun k => impl_sumOf.f k t) (lsum t.data.toList) := by
  have h := isumOf_loop t hs t.size 0 0 (by omega) (Int.le_refl 0) (by omega)
  simp only [List.drop_zero, Int.zero_add] at h
  exact h
theorem itoa_nat (n : Nat) (h : n ≤ 9223372036854775807) : strconv_Itoa.f (n : Int) = some ⟨(Lib.decDigits n).toArray⟩ := by
  unfold strconv_Itoa.f
  rw [if_pos (by omega), if_pos (by omega), Lib.itoa_nonneg]
theorem nDigits_le (n : Nat) : ∀ k, 0 < k → n < 10 ^ k → Lib.nDigits n ≤ k := by
  induction n using Nat.strongRecOn with
  | _ n ih =>
    intro k hk h
    by_cases c : n < 10
    · rw [Lib.nDigits_small c]; exact hk
    · rw [Lib.nDigits_big c]
      obtain ⟨k, rfl⟩ : ∃ j, k = j + 1 := ⟨k - 1, by omega⟩
      have hk1 : 0 < k := by
        rcases Nat.eq_zero_or_pos k with e | e
        · subst e; simp at h; omega
        · exact e
      have := ih (n / 10) (by omega) k hk1 (by rw [Nat.pow_succ] at h; omega)
      omega
theorem dec_sum (n : Nat) : lsum (Lib.decDigits n) = ds n := by rw [dec_pad]; exact lsum_pad _ n (Lib.lt_pow_nDigits n)

/-! ### the program's own: at, sumOf, digitSum, padded -/
theorem at_wl (q : Nat) (hq : q ≤ 13) (s : Int) : impl_at.f (wl q) s = some (W q s) := by
  unfold impl_at.f
  have hl : (wl q).length = 9 * q + 1 := tab_len _ _
  rw [hl, wrap_of (by omega) (by omega), within_eq, Option.bind_some]
  by_cases h : 0 ≤ s ∧ s ≤ ((9 * q + 1 : Nat) : Int) - 1
  · rw [if_pos (by simpa using h), if_pos h.1, if_pos (by omega)]
    obtain ⟨j, rfl⟩ : ∃ j : Nat, s = (j : Int) := ⟨s.toNat, by omega⟩
    congr 1
    exact tab_rd (by omega)
  · rw [if_neg (by simpa using h)]
    congr 1
    by_cases c : s < 0
    · exact (W_neg q s c).symm
    · exact (W_big q s (by omega)).symm
theorem repeatL_one (c : Nat) : Lib.repeatL [48] c = List.replicate c (48 : UInt8) := by
  induction c with
  | zero => rfl
  | succ c ih => simp [Lib.repeatL, ih, List.replicate_succ]
theorem ipadded_ev (n p : Nat) (hp : 0 < p) (h : n < 10 ^ p) (hp2 : p ≤ 18) : Ev (fun _ => impl_padded.f (n : Int) (p : Int)) ⟨(pad p n).toArray⟩ := by
  refine ev_eq fun _ => ?_
  unfold impl_padded.f
  have hb : n < 10 ^ 18 := Nat.lt_of_lt_of_le h (Nat.pow_le_pow_right (by omega) hp2)
  have hd := nDigits_le n p hp h
  rw [itoa_nat n (by omega), Option.bind_some, mk_size, Lib.decDigits_length]
  have e1 : wrap64 ((p : Int) - (Lib.nDigits n : Int)) = ((p - Lib.nDigits n : Nat) : Int) := by rw [wrap_of (by omega) (by omega)]; omega
  have e2 : mx 0 ((p - Lib.nDigits n : Nat) : Int) = ((p - Lib.nDigits n : Nat) : Int) := by unfold mx; omega
  rw [e1, e2]
  unfold strings_Repeat.f
  have h48 : (⟨#[48]⟩ : ByteArray).size = 1 := rfl
  have hl48 : (⟨#[48]⟩ : ByteArray).data.toList = [48] := rfl
  rw [if_pos (by omega), if_pos (by omega), Int.toNat_natCast, h48, if_pos (by omega), hl48, repeatL_one]
  simp only [Option.bind_some]
  rw [mk_size, List.length_replicate, if_pos (by omega), mk_append]
  congr 3
  rw [dec_pad, ← pad_front _ _ _ (Lib.lt_pow_nDigits n), Nat.sub_add_cancel hd]

/-! ### texts of digits -/
abbrev mkT (j b : Nat) : ByteArray := ⟨(pad j b).toArray⟩
theorem T_size (j b : Nat) : (mkT j b).size = j := by rw [mk_size, pad_length]
theorem T_list (j b : Nat) : (mkT j b).data.toList = pad j b := list_of _
theorem T_ext0 (j b i : Nat) (h : i ≤ j) : (mkT j b).extract 0 i = mkT i (b / 10 ^ (j - i)) := by
  refine of_list ?_
  rw [take_list _ i (by rw [T_size]; exact h), T_list]
  have := pad_take i (j - i) b
  rw [show i + (j - i) = j by omega] at this
  exact this
theorem T_ext1 (j b i : Nat) (h : i ≤ j) : (mkT j b).extract i j = mkT (j - i) (b % 10 ^ (j - i)) := by
  have e : (mkT j b).extract i j = (mkT j b).extract i (mkT j b).size := by rw [T_size]
  rw [e]
  refine of_list ?_
  rw [drop_list _ i, T_list]
  have := pad_drop (j - i) i b
  rw [show i + (j - i) = j by omega] at this
  exact this
theorem one_digit (d : Nat) (hd : d < 10) : strOfNums [48 + (d : Int)] = (⟨[dch d].toArray⟩ : ByteArray) := by
  rw [strOne _ (by omega) (by omega)]
  congr 3
theorem T_snoc (j b d : Nat) (hd : d < 10) : mkT j b ++ strOfNums [48 + (d : Int)] = mkT (j + 1) (10 * b + d) := by
  rw [one_digit d hd, mk_append]
  simp only [mkT, pad]
  rw [show (10 * b + d) / 10 = b by omega, show (10 * b + d) % 10 = d by omega]
theorem T_bt (j b i : Nat) (h : i < j) : bt (mkT j b) (i : Int) = 48 + ((b / 10 ^ (j - 1 - i) % 10 : Nat) : Int) := by
  have hl : i < (mkT j b).data.toList.length := by rw [T_list, pad_length]; exact h
  rw [bt_get _ i hl, List.getElem_of_eq (T_list j b) hl, pad_get j b i (by rw [pad_length]; exact h), dch_nat (Nat.mod_lt _ (by decide))]; omega
theorem T_empty : (⟨#[]⟩ : ByteArray) = mkT 0 0 := rfl
theorem T_sum (j b : Nat) (hb : b < 10 ^ j) (hj : j ≤ 100) : Ev (fun k => impl_sumOf.f k (mkT j b)) (ds b) := by
  have h := isumOf_ev (mkT j b) (by rw [T_size]; omega)
  rw [T_list, lsum_pad j b hb] at h
  exact h
theorem ssum_loop (t : ByteArray) (hs : t.size ≤ 1099511627776) : ∀ (d i : Nat) (x : Int), i + d = t.size → 0 ≤ x → x ≤ 255 * i →
    Ev (fun k => spec_tkSum.l0 k t x (i : Int)) (x + lsum (t.data.toList.drop i)) := by
  intro d
  induction d with
  | zero =>
    intro i x hi _ _
    refine ev_succ ?_
    simp only [spec_tkSum.l0]
    rw [List.drop_eq_nil_of_le (by rw [size_len]; omega)]
    exact ev_neg (by omega) (ev_eq fun _ => by simp [lsum])
  | succ d ih =>
    intro i x hi h0 h1
    refine ev_succ ?_
    simp only [spec_tkSum.l0]
    have hlt : i < t.data.toList.length := by rw [size_len]; omega
    rw [bt_get t i hlt, List.drop_eq_getElem_cons hlt, wrap_nat (by omega)]
    have hd := dv_range (t.data.toList[i])
    have e1 : ((t.data.toList[i].toNat : Int) - 48) % 256 = dv (t.data.toList[i]) := rfl
    rw [e1, wrap_of (by omega) (by omega)]
    refine ev_pos (by omega) (ev_pos (by omega) ?_)
    simp only [lsum]
    rw [← Int.add_assoc]
    exact ih (i + 1) _ (by omega) (by omega) (by omega)
theorem sT_sum (j b : Nat) (hb : b < 10 ^ j) (hj : j ≤ 100) : Ev (fun k => spec_tkSum.f k (mkT j b)) (ds b) := by
  have h := ssum_loop (mkT j b) (by rw [T_size]; omega) (mkT j b).size 0 0 (by omega) (Int.le_refl 0) (by omega)
  simp only [List.drop_zero, Int.zero_add] at h
  rw [lsum_pad j b hb] at h
  exact h
theorem ds_lt (j b : Nat) (hb : b < 10 ^ j) (hj : j ≤ 100) : 0 ≤ ds b ∧ ds b ≤ 900 := by
  have h1 := ds_le j b hb
  exact ⟨ds_nonneg b, by omega⟩
theorem tkOf_wl (q : Nat) (hq : q ≤ 13) (s : Int) : spec_tkOf.f (wl q) s = some (W q s) := by
  unfold spec_tkOf.f
  have hl : (wl q).length = 9 * q + 1 := tab_len _ _
  rw [hl]
  by_cases c : s < 0
  · rw [if_pos c, W_neg q s c]
  · rw [if_neg c]
    by_cases c2 : s ≥ ((9 * q + 1 : Nat) : Int)
    · rw [if_pos c2, W_big q s (by omega)]
    · rw [if_neg c2, if_pos (by omega), if_pos (by omega)]
      obtain ⟨j, rfl⟩ : ∃ j : Nat, s = (j : Int) := ⟨s.toNat, by omega⟩
      congr 1
      exact tab_rd (by omega)
theorem pow6 (h : Nat) (hh : h ≤ 6) : (10 : Nat) ^ (2 * h) ≤ 1000000000000 := by
  have : (10 : Nat) ^ (2 * h) ≤ 10 ^ 12 := Nat.pow_le_pow_right (by decide) (by omega)
  omega
theorem W6 (k : Nat) (hk : k ≤ 6) (s : Int) : 0 ≤ W k s ∧ W k s ≤ 1000000 := by
  have h1 := W_le k s
  have h2 : (10 : Int) ^ k ≤ 10 ^ 6 := p10_le hk
  exact ⟨W_nonneg k s, by omega⟩
theorem block_le (h j b : Nat) (hj : j ≤ 2 * h) (hb : b < 10 ^ j) : 10 ^ (2 * h - j) * (b + 1) ≤ 10 ^ (2 * h) := by
  have h2 := Nat.mul_le_mul_left (10 ^ (2 * h - j)) (show b + 1 ≤ 10 ^ j from hb)
  rw [← Nat.pow_add, show 2 * h - j + j = 2 * h by omega] at h2
  exact h2
theorem CL_bd (h j b : Nat) (hh : h ≤ 6) (hj : j ≤ 2 * h) (hb : b < 10 ^ j) : 0 ≤ CL h j b ∧ CL h j b ≤ 1000000000000 := by
  have h1 := cntL_block h (2 * h - j) j b (by omega)
  have h2 := cntL_le h (10 ^ (2 * h - j) * (b + 1))
  have h3 := cntL_nonneg h (10 ^ (2 * h - j) * b)
  have h4 := block_le h j b hj hb
  have h5 := pow6 h hh
  exact ⟨CL_nonneg h j b hj, by omega⟩
theorem half_eq (h : Nat) (hh : h ≤ 6) : wrap64 (Int.tdiv ((2 * h : Nat) : Int) 2) = (h : Int) := by
  rw [Int.tdiv_eq_ediv_of_nonneg (by omega), wrap_of (by omega) (by omega)]; omega
theorem sm_bd (k h : Nat) (hk : k ≤ 6) (hh : h ≤ 6) (x : Int) : ∀ i : Nat, 0 ≤ AA k h x i ∧ AA k h x i ≤ i * 1000000000000 := by
  intro i
  induction i with
  | zero => simp [AA, sm]
  | succ i ih =>
    have h1 := W6 k hk (i : Int)
    have h2 := W6 h hh ((i : Int) + x)
    have h3 := Int.mul_nonneg h1.1 h2.1
    have h4 : W k (i : Int) * W h ((i : Int) + x) ≤ 1000000 * 1000000 := Int.mul_le_mul h1.2 h2.2 h2.1 (by decide)
    unfold AA at ih ⊢
    rw [sm]
    omega

theorem icomp_loop (h q b : Nat) (hh : h ≤ 6) (hq : q ≤ 6) (j : Nat) (hj : j ≤ 12) (hb : b < 10 ^ j) : ∀ d i : Nat, i + d = 9 * q + 1 →
    Ev (fun k => impl_completions.l0 k (mkT j b) (AA q h (ds b) i) (wl h) (wl q) ((9 * q + 1 : Nat) : Int) (i : Int)) (AA q h (ds b) (9 * q + 1)) := by
  have hds := ds_lt j b hb (by omega)
  have hl : (wl q).length = 9 * q + 1 := tab_len _ _
  intro d
  induction d with
  | zero =>
    intro i hi
    obtain rfl : i = 9 * q + 1 := by omega
    refine ev_succ ?_
    simp only [impl_completions.l0]
    exact ev_neg (by omega) (ev_eq fun _ => rfl)
  | succ d ih =>
    intro i hi
    have hlt : i < 9 * q + 1 := by omega
    have hr : rd (wl q) (i : Int) = W q (i : Int) := tab_rd hlt
    have h1 := W6 q hq (i : Int)
    have h2 := W6 h hh ((i : Int) + ds b)
    have h3 := Int.mul_nonneg h1.1 h2.1
    have h4 : W q (i : Int) * W h ((i : Int) + ds b) ≤ 1000000 * 1000000 := Int.mul_le_mul h1.2 h2.2 h2.1 (by decide)
    have h5 := sm_bd q h hq hh (ds b) i
    have hn := ih (i + 1) (by omega)
    have e : AA q h (ds b) (i + 1) = AA q h (ds b) i + W q (i : Int) * W h ((i : Int) + ds b) := rfl
    rw [e] at hn
    refine ev_succ ?_
    simp only [impl_completions.l0]
    rw [hl, hr, wrap_nat (by omega)]
    refine ev_pos (by omega) (ev_pos (by omega) (ev_pos (by omega) (Ev.bind (T_sum j b hb (by omega)) ?_)))
    rw [wrap_of (x := (i : Int) + ds b) (by omega) (by omega)]
    refine ev_bind (at_wl h (by omega) _) ?_
    rw [wrap_of (x := W q (i : Int) * W h ((i : Int) + ds b)) (by omega) (by omega), wrap_of (x := AA q h (ds b) i + W q (i : Int) * W h ((i : Int) + ds b)) (by omega) (by omega)]
    exact hn
theorem icomp_ev (h j b : Nat) (h1 : 1 ≤ h) (hh : h ≤ 6) (hj : j ≤ 2 * h) (hb : b < 10 ^ j) : Ev (fun k => impl_completions.f k ((2 * h : Nat) : Int) (mkT j b)) (CL h j b) := by
  unfold impl_completions.f
  rw [half_eq h hh, T_size, Int.toNat_natCast]
  by_cases c : h ≤ j
  · refine ev_pos (by omega) ?_
    rw [show wrap64 (((2 * h : Nat) : Int) - (j : Int)) = ((2 * h - j : Nat) : Int) by rw [wrap_of (by omega) (by omega)]; omega, T_ext0 j b h (by omega), T_ext1 j b h (by omega)]
    have hb1 : b / 10 ^ (j - h) < 10 ^ h := by
      rw [Nat.div_lt_iff_lt_mul (p10n _), ← Nat.pow_add, show h + (j - h) = j by omega]; exact hb
    have hb2 : b % 10 ^ (j - h) < 10 ^ (j - h) := Nat.mod_lt _ (p10n _)
    have d1 := ds_lt h _ hb1 (by omega)
    have d2 := ds_lt (j - h) _ hb2 (by omega)
    refine Ev.bind (iways_ev (2 * h - j) (by omega)) (ev_pos (by omega) (ev_pos (by omega) (Ev.bind (T_sum h _ hb1 (by omega)) (Ev.bind (T_sum (j - h) _ hb2 (by omega)) ?_))))
    rw [wrap_of (by omega) (by omega)]
    refine ev_bind (at_wl (2 * h - j) (by omega) _) (ev_eq fun _ => ?_)
    unfold CL
    rw [if_pos (by omega)]
  · refine ev_neg (by omega) ?_
    rw [show wrap64 ((h : Int) - (j : Int)) = ((h - j : Nat) : Int) by rw [wrap_of (by omega) (by omega)]; omega]
    refine Ev.bind (iways_ev h (by omega)) (Ev.bind (iways_ev (h - j) (by omega)) ?_)
    have hl : (wl (h - j)).length = 9 * (h - j) + 1 := tab_len _ _
    rw [hl]
    have := icomp_loop h (h - j) b hh (by omega) j (by omega) hb (9 * (h - j) + 1) 0 (by omega)
    have e : CL h j b = AA (h - j) h (ds b) (9 * (h - j) + 1) := by
      unfold CL
      by_cases c2 : h ≤ j
      · omega
      · rw [if_neg c2, DD_sum]
    rw [e]
    exact this

theorem scomp_loop (h q b : Nat) (hh : h ≤ 6) (hq : q ≤ 6) (j : Nat) (hj : j ≤ 12) (hb : b < 10 ^ j) : ∀ d i : Nat, i + d = 9 * q + 1 →
    Ev (fun k => spec_tkFrom.l0 k (mkT j b) (AA q h (ds b) i) (wl h) (wl q) ((9 * q + 1 : Nat) : Int) (i : Int)) (AA q h (ds b) (9 * q + 1)) := by
  have hds := ds_lt j b hb (by omega)
  have hl : (wl q).length = 9 * q + 1 := tab_len _ _
  intro d
  induction d with
  | zero =>
    intro i hi
    obtain rfl : i = 9 * q + 1 := by omega
    refine ev_succ ?_
    simp only [spec_tkFrom.l0]
    exact ev_neg (by omega) (ev_eq fun _ => rfl)
  | succ d ih =>
    intro i hi
    have hlt : i < 9 * q + 1 := by omega
    have hr : rd (wl q) (i : Int) = W q (i : Int) := tab_rd hlt
    have h1 := W6 q hq (i : Int)
    have h2 := W6 h hh ((i : Int) + ds b)
    have h3 := Int.mul_nonneg h1.1 h2.1
    have h4 : W q (i : Int) * W h ((i : Int) + ds b) ≤ 1000000 * 1000000 := Int.mul_le_mul h1.2 h2.2 h2.1 (by decide)
    have h5 := sm_bd q h hq hh (ds b) i
    have hn := ih (i + 1) (by omega)
    have e : AA q h (ds b) (i + 1) = AA q h (ds b) i + W q (i : Int) * W h ((i : Int) + ds b) := rfl
    rw [e] at hn
    refine ev_succ ?_
    simp only [spec_tkFrom.l0]
    rw [hl, hr, wrap_nat (by omega)]
    refine ev_pos (by omega) (ev_pos (by omega) (ev_pos (by omega) (Ev.bind (sT_sum j b hb (by omega)) ?_)))
    rw [Int.add_comm (ds b) (i : Int), wrap_of (x := (i : Int) + ds b) (by omega) (by omega)]
    refine ev_bind (tkOf_wl h (by omega) _) ?_
    rw [wrap_of (x := W q (i : Int) * W h ((i : Int) + ds b)) (by omega) (by omega), wrap_of (x := AA q h (ds b) i + W q (i : Int) * W h ((i : Int) + ds b)) (by omega) (by omega)]
    exact hn
theorem scomp_ev (h j b : Nat) (h1 : 1 ≤ h) (hh : h ≤ 6) (hj : j ≤ 2 * h) (hb : b < 10 ^ j) : Ev (fun k => spec_tkFrom.f k ((2 * h : Nat) : Int) (mkT j b)) (CL h j b) := by
  unfold spec_tkFrom.f
  rw [half_eq h hh, T_size, Int.toNat_natCast]
  by_cases c : h < j
  · refine ev_pos (by omega) ?_
    rw [show wrap64 (((2 * h : Nat) : Int) - (j : Int)) = ((2 * h - j : Nat) : Int) by rw [wrap_of (by omega) (by omega)]; omega, T_ext0 j b h (by omega), T_ext1 j b h (by omega)]
    have hb1 : b / 10 ^ (j - h) < 10 ^ h := by
      rw [Nat.div_lt_iff_lt_mul (p10n _), ← Nat.pow_add, show h + (j - h) = j by omega]; exact hb
    have hb2 : b % 10 ^ (j - h) < 10 ^ (j - h) := Nat.mod_lt _ (p10n _)
    have d1 := ds_lt h _ hb1 (by omega)
    have d2 := ds_lt (j - h) _ hb2 (by omega)
    refine Ev.bind (sways_ev (2 * h - j) (by omega)) (ev_pos (by omega) (ev_pos (by omega) (Ev.bind (sT_sum h _ hb1 (by omega)) (Ev.bind (sT_sum (j - h) _ hb2 (by omega)) ?_))))
    rw [wrap_of (by omega) (by omega)]
    refine ev_bind (tkOf_wl (2 * h - j) (by omega) _) (ev_eq fun _ => ?_)
    unfold CL
    rw [if_pos (by omega)]
  · refine ev_neg (by omega) ?_
    rw [show wrap64 ((h : Int) - (j : Int)) = ((h - j : Nat) : Int) by rw [wrap_of (by omega) (by omega)]; omega]
    refine Ev.bind (sways_ev h (by omega)) (Ev.bind (sways_ev (h - j) (by omega)) ?_)
    have hl : (wl (h - j)).length = 9 * (h - j) + 1 := tab_len _ _
    rw [hl]
    have := scomp_loop h (h - j) b hh (by omega) j (by omega) hb (9 * (h - j) + 1) 0 (by omega)
    have e : CL h j b = AA (h - j) h (ds b) (9 * (h - j) + 1) := by
      unfold CL
      by_cases c2 : h ≤ j
      · obtain rfl : h = j := by omega
        rw [if_pos c2, Nat.sub_self, Nat.pow_zero, Nat.div_one, Nat.mod_one, ds_small (by decide : 0 < 10), show 2 * h - h = h by omega]
        simp [AA, sm, W]
      · rw [if_neg c2, DD_sum]
    rw [e]
    exact this

/-! ### ranks -/
theorem pre_step (n m i : Nat) (hi : i < n) : m / 10 ^ (n - (i + 1)) = 10 * (m / 10 ^ (n - i)) + m / 10 ^ (n - 1 - i) % 10 := by
  rw [show n - i = (n - 1 - i) + 1 by omega, show n - (i + 1) = n - 1 - i by omega, Nat.pow_succ, ← Nat.div_div_eq_div_mul]
  omega
theorem pre_lt (n m i : Nat) (hi : i ≤ n) (hm : m < 10 ^ n) : m / 10 ^ (n - i) < 10 ^ i := by
  rw [Nat.div_lt_iff_lt_mul (p10n _), ← Nat.pow_add, show i + (n - i) = n by omega]; exact hm
theorem cons_lt (b d i : Nat) (hb : b < 10 ^ i) (hd : d < 10) : 10 * b + d < 10 ^ (i + 1) := by rw [Nat.pow_succ]; omega
theorem cntL_bd (h j b : Nat) (hh : h ≤ 6) (hj : j ≤ 2 * h) (hb : b ≤ 10 ^ j) : 0 ≤ cntL h (10 ^ (2 * h - j) * b) ∧ cntL h (10 ^ (2 * h - j) * b) ≤ 1000000000000 := by
  have h2 := cntL_le h (10 ^ (2 * h - j) * b)
  have h4 : 10 ^ (2 * h - j) * b ≤ 10 ^ (2 * h) := by
    have h2 := Nat.mul_le_mul_left (10 ^ (2 * h - j)) hb
    rw [← Nat.pow_add, show 2 * h - j + j = 2 * h by omega] at h2
    exact h2
  have h5 := pow6 h hh
  exact ⟨cntL_nonneg h _, by omega⟩
theorem blk (h i b d : Nat) (hi : i < 2 * h) : cntL h (10 ^ (2 * h - (i + 1)) * (10 * b + (d + 1))) = cntL h (10 ^ (2 * h - (i + 1)) * (10 * b + d)) + CL h (i + 1) (10 * b + d) := by
  have := cntL_block h (2 * h - (i + 1)) (i + 1) (10 * b + d) (by omega)
  rw [← Nat.add_assoc]; exact this
theorem blk0 (h i b : Nat) (hi : i < 2 * h) : 10 ^ (2 * h - i) * b = 10 ^ (2 * h - (i + 1)) * (10 * b + 0) := by
  rw [show 2 * h - i = (2 * h - (i + 1)) + 1 by omega, Nat.pow_succ, Nat.mul_assoc]; rfl
theorem blk10 (h i b : Nat) (hi : i < 2 * h) : 10 ^ (2 * h - i) * (b + 1) = 10 ^ (2 * h - (i + 1)) * (10 * b + (9 + 1)) := by
  rw [show 2 * h - i = (2 * h - (i + 1)) + 1 by omega, Nat.pow_succ, Nat.mul_assoc]; congr 1
theorem irank_l1 (h m : Nat) (h1 : 1 ≤ h) (hh : h ≤ 6) (hm : m < 10 ^ (2 * h)) (i : Nat) (hi : i < 2 * h) (r : Int)
    (hn : Ev (fun k => impl_rankOfLucky.l0 k (mkT (2 * h) m) (cntL h (10 ^ (2 * h - (i + 1)) * (m / 10 ^ (2 * h - (i + 1))))) ((2 * h : Nat) : Int) ((i + 1 : Nat) : Int)) r) :
    ∀ e d : Nat, d + e = m / 10 ^ (2 * h - 1 - i) % 10 →
      Ev (fun k => impl_rankOfLucky.l1 k (mkT (2 * h) m) (cntL h (10 ^ (2 * h - (i + 1)) * (10 * (m / 10 ^ (2 * h - i)) + d))) (i : Int) (48 + (d : Int)) ((2 * h : Nat) : Int) (i : Int)) r := by
  have hp := pre_lt (2 * h) m i (by omega) hm
  have ht : m / 10 ^ (2 * h - 1 - i) % 10 < 10 := Nat.mod_lt _ (by decide)
  intro e
  induction e with
  | zero =>
    intro d hd
    refine ev_succ ?_
    simp only [impl_rankOfLucky.l1]
    rw [T_size, T_bt _ _ _ hi]
    refine ev_pos (by omega) (ev_pos (by omega) (ev_neg (by omega) ?_))
    rw [show d = m / 10 ^ (2 * h - 1 - i) % 10 by omega, ← pre_step _ _ _ hi, wrap_nat (by omega)]
    exact hn
  | succ e ih =>
    intro d hd
    have hc := CL_bd h (i + 1) (10 * (m / 10 ^ (2 * h - i)) + d) hh (by omega) (cons_lt _ _ _ hp (by omega))
    have hb := cntL_bd h (i + 1) (10 * (m / 10 ^ (2 * h - i)) + d) hh (by omega) (Nat.le_of_lt (cons_lt _ _ _ hp (by omega)))
    have hk := blk h i (m / 10 ^ (2 * h - i)) d hi
    refine ev_succ ?_
    simp only [impl_rankOfLucky.l1, Option.bind_some]
    rw [T_size, T_bt _ _ _ hi, Int.toNat_natCast, T_ext0 _ _ _ (by omega), T_size, one_digit d (by omega), ← one_digit d (by omega), T_snoc _ _ _ (by omega)]
    refine ev_pos (by omega) (ev_pos (by omega) (ev_pos (by omega) (ev_pos (by omega) (ev_pos ?_ (Ev.bind (icomp_ev h (i + 1) _ h1 hh (by omega) (cons_lt _ _ _ hp (by omega))) ?_)))))
    · rw [one_digit d (by omega), mk_size]; simp; omega
    · rw [wrap_of (by omega) (by omega), ← hk, show (48 + (d : Int) + 1) % 256 = 48 + ((d + 1 : Nat) : Int) by omega]
      exact ih (d + 1) (by omega)
theorem irank_l0 (h m : Nat) (h1 : 1 ≤ h) (hh : h ≤ 6) (hm : m < 10 ^ (2 * h)) : ∀ e i : Nat, i + e = 2 * h →
    Ev (fun k => impl_rankOfLucky.l0 k (mkT (2 * h) m) (cntL h (10 ^ (2 * h - i) * (m / 10 ^ (2 * h - i)))) ((2 * h : Nat) : Int) (i : Int)) (cntL h m) := by
  intro e
  induction e with
  | zero =>
    intro i hi
    obtain rfl : i = 2 * h := by omega
    refine ev_succ ?_
    simp only [impl_rankOfLucky.l0]
    exact ev_neg (by omega) (ev_eq fun _ => by simp)
  | succ e ih =>
    intro i hi
    refine ev_succ ?_
    simp only [impl_rankOfLucky.l0]
    refine ev_pos (by omega) ?_
    have := irank_l1 h m h1 hh hm i (by omega) (cntL h m) (ih (i + 1) (by omega)) (m / 10 ^ (2 * h - 1 - i) % 10) 0 (by omega)
    rw [← blk0 h i _ (by omega)] at this
    exact this
theorem irank_ev (h m : Nat) (h1 : 1 ≤ h) (hh : h ≤ 6) (hm : m < 10 ^ (2 * h)) : Ev (fun k => impl_rankOfLucky.f k (mkT (2 * h) m)) (cntL h m) := by
  unfold impl_rankOfLucky.f
  rw [T_size]
  have := irank_l0 h m h1 hh hm (2 * h) 0 (by omega)
  rw [Nat.sub_zero, Nat.div_eq_of_lt hm, Nat.mul_zero] at this
  exact this
theorem enc_one (d : Nat) (hd : d < 10) : Utf8.encode (wrap32 (48 + (d : Int))) = strOfNums [48 + (d : Int)] := by
  have hw : wrap32 (48 + (d : Int)) = 48 + (d : Int) := by unfold wrap32; omega
  have hv : Utf8.valid (48 + (d : Int)) = true := by unfold Utf8.valid; simp; omega
  rw [hw, strOne _ (by omega) (by omega)]
  unfold Utf8.encode
  dsimp only
  rw [if_pos hv, if_pos (by omega)]
theorem srank_l1 (h m : Nat) (h1 : 1 ≤ h) (hh : h ≤ 6) (hm : m < 10 ^ (2 * h)) (i : Nat) (hi : i < 2 * h) :
    ∀ e d : Nat, d + e = m / 10 ^ (2 * h - 1 - i) % 10 →
      Ev (fun k => spec_tkRank.l1 k (mkT (2 * h) m) (cntL h (10 ^ (2 * h - (i + 1)) * (10 * (m / 10 ^ (2 * h - i)) + d))) (i : Int) (48 + (d : Int))) (cntL h (10 ^ (2 * h - (i + 1)) * (m / 10 ^ (2 * h - (i + 1))))) := by
  have hp := pre_lt (2 * h) m i (by omega) hm
  have ht : m / 10 ^ (2 * h - 1 - i) % 10 < 10 := Nat.mod_lt _ (by decide)
  intro e
  induction e with
  | zero =>
    intro d hd
    refine ev_succ ?_
    simp only [spec_tkRank.l1]
    rw [T_size, T_bt _ _ _ hi]
    refine ev_pos (by omega) (ev_pos (by omega) (ev_neg (by omega) (ev_eq fun _ => ?_)))
    rw [show d = m / 10 ^ (2 * h - 1 - i) % 10 by omega, ← pre_step _ _ _ hi]
  | succ e ih =>
    intro d hd
    have hc := CL_bd h (i + 1) (10 * (m / 10 ^ (2 * h - i)) + d) hh (by omega) (cons_lt _ _ _ hp (by omega))
    have hb := cntL_bd h (i + 1) (10 * (m / 10 ^ (2 * h - i)) + d) hh (by omega) (Nat.le_of_lt (cons_lt _ _ _ hp (by omega)))
    have hk := blk h i (m / 10 ^ (2 * h - i)) d hi
    refine ev_succ ?_
    simp only [spec_tkRank.l1]
    rw [T_size, T_bt _ _ _ hi, Int.toNat_natCast, T_ext0 _ _ _ (by omega), T_size, enc_one d (by omega), T_snoc _ _ _ (by omega)]
    refine ev_pos (by omega) (ev_pos (by omega) (ev_pos (by omega) (ev_pos ?_ (Ev.bind (scomp_ev h (i + 1) _ h1 hh (by omega) (cons_lt _ _ _ hp (by omega))) ?_))))
    · rw [one_digit d (by omega), mk_size]; simp; omega
    · rw [wrap_of (by omega) (by omega), ← hk, show (48 + (d : Int) + 1) % 256 = 48 + ((d + 1 : Nat) : Int) by omega]
      exact ih (d + 1) (by omega)
theorem srank_l0 (h m : Nat) (h1 : 1 ≤ h) (hh : h ≤ 6) (hm : m < 10 ^ (2 * h)) : ∀ e i : Nat, i + e = 2 * h →
    Ev (fun k => spec_tkRank.l0 k (mkT (2 * h) m) (cntL h (10 ^ (2 * h - i) * (m / 10 ^ (2 * h - i)))) i) (cntL h m) := by
  intro e
  induction e with
  | zero =>
    intro i hi
    obtain rfl : i = 2 * h := by omega
    refine ev_succ ?_
    simp only [spec_tkRank.l0]
    exact ev_neg (by rw [T_size]; omega) (ev_eq fun _ => by simp)
  | succ e ih =>
    intro i hi
    have ht : m / 10 ^ (2 * h - 1 - i) % 10 < 10 := Nat.mod_lt _ (by decide)
    refine ev_succ ?_
    simp only [spec_tkRank.l0]
    rw [T_size, T_bt _ _ _ (by omega)]
    refine ev_pos (by omega) (ev_pos (by omega) ?_)
    have := srank_l1 h m h1 hh hm i (by omega) (m / 10 ^ (2 * h - 1 - i) % 10) 0 (by omega)
    rw [← blk0 h i _ (by omega)] at this
    exact Ev.bind this (ih (i + 1) (by omega))
theorem srank_ev (h m : Nat) (h1 : 1 ≤ h) (hh : h ≤ 6) (hm : m < 10 ^ (2 * h)) : Ev (fun k => spec_tkRank.f k (mkT (2 * h) m)) (cntL h m) := by
  unfold spec_tkRank.f
  have := srank_l0 h m h1 hh hm (2 * h) 0 (by omega)
  rw [Nat.sub_zero, Nat.div_eq_of_lt hm, Nat.mul_zero] at this
  exact this
/-! ### the ticket of a rank -/
def atRank (h : Nat) (R : Int) (i b : Nat) : Prop := b < 10 ^ i ∧ cntL h (10 ^ (2 * h - i) * b) ≤ R ∧ R < cntL h (10 ^ (2 * h - i) * (b + 1))
theorem atRank_end {h b : Nat} {R : Int} (g : atRank h R (2 * h) b) : b < 10 ^ (2 * h) ∧ lky h b = true ∧ cntL h b = R := by
  obtain ⟨h1, h2, h3⟩ := g
  rw [Nat.sub_self, Nat.pow_zero, Nat.one_mul] at h2 h3
  simp only [cntL] at h3
  by_cases c : lky h b = true
  · rw [if_pos c] at h3; exact ⟨h1, c, by omega⟩
  · rw [if_neg c] at h3; omega
theorem iof_l1 (h : Nat) (h1 : 1 ≤ h) (hh : h ≤ 6) (R : Int) (i b : Nat) (hi : i < 2 * h) (hb : b < 10 ^ i) (hR : R < cntL h (10 ^ (2 * h - i) * (b + 1)))
    (hn : ∀ c, atRank h R (i + 1) c → ∃ m, atRank h R (2 * h) m ∧ Ev (fun k => impl_LuckyOfRank.l0 k ((2 * h : Nat) : Int) (R - cntL h (10 ^ (2 * h - (i + 1)) * c)) (mkT (i + 1) c) ((2 * h : Nat) : Int) ((i + 1 : Nat) : Int)) (mkT (2 * h) m, true)) :
    ∀ e d : Nat, d + e = 9 → cntL h (10 ^ (2 * h - (i + 1)) * (10 * b + d)) ≤ R → ∃ m, atRank h R (2 * h) m ∧
      Ev (fun k => impl_LuckyOfRank.l1 k ((2 * h : Nat) : Int) (R - cntL h (10 ^ (2 * h - (i + 1)) * (10 * b + d))) (mkT i b) (48 + (d : Int)) ((2 * h : Nat) : Int) (i : Int)) (mkT (2 * h) m, true) := by
  have step : ∀ d : Nat, d < 10 → cntL h (10 ^ (2 * h - (i + 1)) * (10 * b + d)) ≤ R → (∀ (f : R < cntL h (10 ^ (2 * h - (i + 1)) * (10 * b + (d + 1)))), False) ∨ ∃ m, atRank h R (2 * h) m ∧
      Ev (fun k => impl_LuckyOfRank.l1 k ((2 * h : Nat) : Int) (R - cntL h (10 ^ (2 * h - (i + 1)) * (10 * b + d))) (mkT i b) (48 + (d : Int)) ((2 * h : Nat) : Int) (i : Int)) (mkT (2 * h) m, true) := by
    intro d hd hle
    by_cases c : R < cntL h (10 ^ (2 * h - (i + 1)) * (10 * b + (d + 1)))
    · refine .inr ?_
      have hk := blk h i b d hi
      obtain ⟨m, hm, hev⟩ := hn (10 * b + d) ⟨cons_lt _ _ _ hb hd, hle, c⟩
      refine ⟨m, hm, ev_succ ?_⟩
      simp only [impl_LuckyOfRank.l1, Option.bind_some]
      rw [T_snoc _ _ _ hd, T_size, one_digit d hd, wrap_nat (by omega)]
      exact ev_pos (by rw [mk_size]; simp; omega) (Ev.bind (icomp_ev h (i + 1) _ h1 hh (by omega) (cons_lt _ _ _ hb hd)) (ev_pos (by omega) hev))
    · exact .inl c
  intro e
  induction e with
  | zero =>
    intro d hd hle
    obtain rfl : d = 9 := by omega
    rcases step 9 (by decide) hle with f | g
    · exact absurd (by rw [blk10 h i b hi] at hR; exact hR) f
    · exact g
  | succ e ih =>
    intro d hd hle
    rcases step d (by omega) hle with f | g
    · have hk := blk h i b d hi
      have hc := CL_bd h (i + 1) (10 * b + d) hh (by omega) (cons_lt _ _ _ hb (by omega))
      have hbd := cntL_bd h (i + 1) (10 * b + d) hh (by omega) (Nat.le_of_lt (cons_lt _ _ _ hb (by omega)))
      have hR2 := cntL_bd h i (b + 1) hh (by omega) hb
      have hge : cntL h (10 ^ (2 * h - (i + 1)) * (10 * b + (d + 1))) ≤ R := by
        rcases Int.lt_or_le R (cntL h (10 ^ (2 * h - (i + 1)) * (10 * b + (d + 1)))) with q | q
        · exact absurd q f
        · exact q
      obtain ⟨m, hm, hev⟩ := ih (d + 1) (by omega) hge
      refine ⟨m, hm, ev_succ ?_⟩
      simp only [impl_LuckyOfRank.l1, Option.bind_some]
      rw [T_snoc _ _ _ (by omega), T_size, one_digit d (by omega)]
      refine ev_pos (by rw [mk_size]; simp; omega) (Ev.bind (icomp_ev h (i + 1) _ h1 hh (by omega) (cons_lt _ _ _ hb (by omega))) (ev_neg (by omega) ?_))
      rw [wrap_of (by omega) (by omega), show (48 + (d : Int) + 1) % 256 = 48 + ((d + 1 : Nat) : Int) by omega, show R - cntL h (10 ^ (2 * h - (i + 1)) * (10 * b + d)) - CL h (i + 1) (10 * b + d) = R - cntL h (10 ^ (2 * h - (i + 1)) * (10 * b + (d + 1))) by omega]
      exact hev
    · exact g
theorem iof_l0 (h : Nat) (h1 : 1 ≤ h) (hh : h ≤ 6) (R : Int) : ∀ e i b : Nat, i + e = 2 * h → atRank h R i b → ∃ m, atRank h R (2 * h) m ∧
    Ev (fun k => impl_LuckyOfRank.l0 k ((2 * h : Nat) : Int) (R - cntL h (10 ^ (2 * h - i) * b)) (mkT i b) ((2 * h : Nat) : Int) (i : Int)) (mkT (2 * h) m, true) := by
  intro e
  induction e with
  | zero =>
    intro i b hi hb
    obtain rfl : i = 2 * h := by omega
    refine ⟨b, hb, ev_succ ?_⟩
    simp only [impl_LuckyOfRank.l0]
    exact ev_neg (by omega) (ev_eq fun _ => rfl)
  | succ e ih =>
    intro i b hi hb
    obtain ⟨m, hm, hev⟩ := iof_l1 h h1 hh R i b (by omega) hb.1 hb.2.2 (fun c hc => ih (i + 1) c (by omega) hc) 9 0 (by omega) (by rw [← blk0 h i b (by omega)]; exact hb.2.1)
    refine ⟨m, hm, ev_succ ?_⟩
    simp only [impl_LuckyOfRank.l0]
    rw [← blk0 h i b (by omega)] at hev
    exact ev_pos (by omega) hev
theorem sof_l1 (h : Nat) (h1 : 1 ≤ h) (hh : h ≤ 6) (R : Int) (i b : Nat) (hi : i < 2 * h) (hb : b < 10 ^ i) (hR : R < cntL h (10 ^ (2 * h - i) * (b + 1)))
    (hn : ∀ c, atRank h R (i + 1) c → ∃ m, atRank h R (2 * h) m ∧ Ev (fun k => spec_tkRanked.l0 k ((2 * h : Nat) : Int) (R - cntL h (10 ^ (2 * h - (i + 1)) * c)) (mkT (i + 1) c)) (mkT (2 * h) m)) :
    ∀ e d : Nat, d + e = 9 → cntL h (10 ^ (2 * h - (i + 1)) * (10 * b + d)) ≤ R → ∃ m, atRank h R (2 * h) m ∧
      Ev (fun k => spec_tkRanked.l1 k ((2 * h : Nat) : Int) (R - cntL h (10 ^ (2 * h - (i + 1)) * (10 * b + d))) (mkT i b) (d : Int)) (mkT (2 * h) m) := by
  have hnum : ∀ d : Nat, d < 10 → Ev (fun k => spec_l1Num.f k (d : Int)) (strOfNums [48 + (d : Int)]) := fun d hd => by
    have := l1Num_ev d (by omega)
    rw [Lib.decDigits_one hd] at this
    rw [one_digit d hd]
    exact this
  have step : ∀ d : Nat, d < 10 → cntL h (10 ^ (2 * h - (i + 1)) * (10 * b + d)) ≤ R → (∀ (f : R < cntL h (10 ^ (2 * h - (i + 1)) * (10 * b + (d + 1)))), False) ∨ ∃ m, atRank h R (2 * h) m ∧
      Ev (fun k => spec_tkRanked.l1 k ((2 * h : Nat) : Int) (R - cntL h (10 ^ (2 * h - (i + 1)) * (10 * b + d))) (mkT i b) (d : Int)) (mkT (2 * h) m) := by
    intro d hd hle
    by_cases c : R < cntL h (10 ^ (2 * h - (i + 1)) * (10 * b + (d + 1)))
    · refine .inr ?_
      have hk := blk h i b d hi
      obtain ⟨m, hm, hev⟩ := hn (10 * b + d) ⟨cons_lt _ _ _ hb hd, hle, c⟩
      refine ⟨m, hm, ev_succ ?_⟩
      simp only [spec_tkRanked.l1]
      refine ev_pos (by omega) (Ev.bind (hnum d hd) ?_)
      rw [T_snoc _ _ _ hd, T_size, one_digit d hd]
      exact ev_pos (by rw [mk_size]; simp; omega) (Ev.bind (scomp_ev h (i + 1) _ h1 hh (by omega) (cons_lt _ _ _ hb hd)) (ev_pos (by omega) hev))
    · exact .inl c
  intro e
  induction e with
  | zero =>
    intro d hd hle
    obtain rfl : d = 9 := by omega
    rcases step 9 (by decide) hle with f | g
    · exact absurd (by rw [blk10 h i b hi] at hR; exact hR) f
    · exact g
  | succ e ih =>
    intro d hd hle
    rcases step d (by omega) hle with f | g
    · have hk := blk h i b d hi
      have hc := CL_bd h (i + 1) (10 * b + d) hh (by omega) (cons_lt _ _ _ hb (by omega))
      have hbd := cntL_bd h (i + 1) (10 * b + d) hh (by omega) (Nat.le_of_lt (cons_lt _ _ _ hb (by omega)))
      have hR2 := cntL_bd h i (b + 1) hh (by omega) hb
      have hge : cntL h (10 ^ (2 * h - (i + 1)) * (10 * b + (d + 1))) ≤ R := by
        rcases Int.lt_or_le R (cntL h (10 ^ (2 * h - (i + 1)) * (10 * b + (d + 1)))) with q | q
        · exact absurd q f
        · exact q
      obtain ⟨m, hm, hev⟩ := ih (d + 1) (by omega) hge
      refine ⟨m, hm, ev_succ ?_⟩
      simp only [spec_tkRanked.l1]
      refine ev_pos (by omega) (Ev.bind (hnum d (by omega)) ?_)
      rw [T_snoc _ _ _ (by omega), T_size, one_digit d (by omega)]
      refine ev_pos (by rw [mk_size]; simp; omega) (Ev.bind (scomp_ev h (i + 1) _ h1 hh (by omega) (cons_lt _ _ _ hb (by omega))) (ev_neg (by omega) ?_))
      rw [wrap_of (by omega) (by omega), wrap_nat (by omega), show R - cntL h (10 ^ (2 * h - (i + 1)) * (10 * b + d)) - CL h (i + 1) (10 * b + d) = R - cntL h (10 ^ (2 * h - (i + 1)) * (10 * b + (d + 1))) by omega]
      exact hev
    · exact g
theorem sof_l0 (h : Nat) (h1 : 1 ≤ h) (hh : h ≤ 6) (R : Int) : ∀ e i b : Nat, i + e = 2 * h → atRank h R i b → ∃ m, atRank h R (2 * h) m ∧
    Ev (fun k => spec_tkRanked.l0 k ((2 * h : Nat) : Int) (R - cntL h (10 ^ (2 * h - i) * b)) (mkT i b)) (mkT (2 * h) m) := by
  intro e
  induction e with
  | zero =>
    intro i b hi hb
    obtain rfl : i = 2 * h := by omega
    refine ⟨b, hb, ev_succ ?_⟩
    simp only [spec_tkRanked.l0]
    exact ev_neg (by rw [T_size]; omega) (ev_eq fun _ => rfl)
  | succ e ih =>
    intro i b hi hb
    obtain ⟨m, hm, hev⟩ := sof_l1 h h1 hh R i b (by omega) hb.1 hb.2.2 (fun c hc => ih (i + 1) c (by omega) hc) 9 0 (by omega) (by rw [← blk0 h i b (by omega)]; exact hb.2.1)
    refine ⟨m, hm, ev_succ ?_⟩
    simp only [spec_tkRanked.l0]
    rw [← blk0 h i b (by omega)] at hev
    exact ev_pos (by rw [T_size]; omega) hev

/-! ### tickets and their functions -/
def okSz (n : Int) : Bool := decide ((2 ≤ n ∧ n ≤ 12) ∧ n % 2 = 0)
theorem tmod_two (n : Int) : (Int.tmod n 2 == 0) = decide (n % 2 = 0) := by
  rw [Bool.eq_iff_iff]; simp only [beq_iff_eq, decide_eq_true_eq]
  constructor
  · intro e
    have := Int.dvd_of_tmod_eq_zero e
    omega
  · intro e
    exact Int.tmod_eq_zero_of_dvd (by omega)
theorem isSize_eq (n : Int) : impl_isSize.f n = some (okSz n) := by
  unfold impl_isSize.f
  rw [within_eq, Option.bind_some, tmod_two]
  by_cases c : 2 ≤ n ∧ n ≤ 12
  · rw [if_pos (decide_eq_true c)]; congr 1; unfold okSz; simp [c]
  · rw [if_neg (by simpa using c)]; congr 1; unfold okSz; exact (decide_eq_false (fun e => c e.1)).symm
theorem tkSize_eq (n : Int) : spec_tkSize.f n = some (okSz n) := by
  unfold spec_tkSize.f
  rw [l1In_eq, Option.bind_some, tmod_two]
  by_cases c : 2 ≤ n ∧ n ≤ 12
  · rw [if_pos (decide_eq_true c)]; congr 1; unfold okSz; simp [c]
  · rw [if_neg (by simpa using c)]; congr 1; unfold okSz; exact (decide_eq_false (fun e => c e.1)).symm
theorem okSz_half {n : Int} (h : okSz n = true) : ∃ q : Nat, 1 ≤ q ∧ q ≤ 6 ∧ n = ((2 * q : Nat) : Int) := by
  unfold okSz at h
  rw [decide_eq_true_eq] at h
  exact ⟨(n / 2).toNat, by omega, by omega, by omega⟩
theorem okSz_of (q : Nat) (h1 : 1 ≤ q) (h6 : q ≤ 6) : okSz ((2 * q : Nat) : Int) = true := by
  unfold okSz; rw [decide_eq_true_eq]; omega
def isD (b : UInt8) : Bool := decide (48 ≤ b.toNat ∧ b.toNat ≤ 57)
def okTk (s : ByteArray) : Bool := okSz (s.size : Int) && s.data.toList.all isD
theorem dig_loop (s : ByteArray) (hs : s.size ≤ 1000000) (lo hi : Int) : ∀ d i : Nat, i + d = s.size → Ev (fun k => impl_areDigits.l0 k s lo hi (s.size : Int) (i : Int)) ((s.data.toList.drop i).all isD && decide (lo ≤ (s.size : Int) ∧ (s.size : Int) ≤ hi)) := by
  intro d
  induction d with
  | zero =>
    intro i hi2
    refine ev_succ ?_
    simp only [impl_areDigits.l0]
    rw [within_eq, List.drop_eq_nil_of_le (by rw [size_len]; omega)]
    exact ev_neg (by omega) (ev_eq fun _ => by simp)
  | succ d ih =>
    intro i hi2
    have hlt : i < s.data.toList.length := by rw [size_len]; omega
    refine ev_succ ?_
    simp only [impl_areDigits.l0]
    rw [bt_get s i hlt, List.drop_eq_getElem_cons hlt, wrap_nat (by omega), List.all_cons]
    refine ev_pos (by omega) (ev_pos (by omega) (ev_pos (by omega) ?_))
    by_cases c : (s.data.toList[i].toNat : Int) < 48
    · have e : isD s.data.toList[i] = false := by unfold isD; exact decide_eq_false (by omega)
      rw [e]; exact ev_pos c (ev_eq fun _ => rfl)
    by_cases c2 : (s.data.toList[i].toNat : Int) > 57
    · have e : isD s.data.toList[i] = false := by unfold isD; exact decide_eq_false (by omega)
      rw [e]; exact ev_neg c (ev_pos c2 (ev_eq fun _ => rfl))
    · have e : isD s.data.toList[i] = true := by unfold isD; exact decide_eq_true (by omega)
      rw [e, Bool.true_and]
      exact ev_neg c (ev_neg c2 (ih (i + 1) (by omega)))
theorem areDigits_ev (s : ByteArray) (hs : s.size ≤ 1000000) (lo hi : Int) : Ev (fun k => impl_areDigits.f k s lo hi) (s.data.toList.all isD && decide (lo ≤ (s.size : Int) ∧ (s.size : Int) ≤ hi)) := by
  unfold impl_areDigits.f
  exact dig_loop s hs lo hi s.size 0 (by omega)
theorem isTicket_ev (s : ByteArray) (hs : s.size ≤ 1000000) : Ev (fun k => impl_IsTicket.f k s) (okTk s) := by
  unfold impl_IsTicket.f
  refine Ev.bind (areDigits_ev s hs 2 12) ?_
  have e2 : (((s.size : Int) % 2) == 0) = decide ((s.size : Int) % 2 = 0) := by rw [Bool.eq_iff_iff]; simp
  rw [e2]
  unfold okTk okSz
  by_cases c : s.data.toList.all isD = true
  · rw [c, Bool.true_and, Bool.and_true]
    by_cases c2 : (2 : Int) ≤ s.size ∧ (s.size : Int) ≤ 12
    · refine ev_pos (decide_eq_true c2) (ev_eq fun _ => ?_)
      congr 1; rw [decide_eq_decide]; exact ⟨fun h => ⟨c2, h⟩, fun h => h.2⟩
    · refine ev_neg (by simpa using c2) (ev_eq fun _ => ?_)
      congr 1; exact (decide_eq_false (fun h => c2 h.1)).symm
  · rw [Bool.not_eq_true] at c
    rw [c, Bool.false_and, Bool.and_false]
    exact ev_neg (by decide) (ev_eq fun _ => rfl)
theorem good_loop (s : ByteArray) (hs : s.size ≤ 1000000) : ∀ d i : Nat, i + d = s.size → Ev (fun k => spec_tkGood.l0 k s (i : Int)) ((s.data.toList.drop i).all isD) := by
  intro d
  induction d with
  | zero =>
    intro i hi2
    refine ev_succ ?_
    simp only [spec_tkGood.l0]
    rw [List.drop_eq_nil_of_le (by rw [size_len]; omega)]
    exact ev_neg (by omega) (ev_eq fun _ => rfl)
  | succ d ih =>
    intro i hi2
    have hlt : i < s.data.toList.length := by rw [size_len]; omega
    refine ev_succ ?_
    simp only [spec_tkGood.l0]
    rw [bt_get s i hlt, List.drop_eq_getElem_cons hlt, wrap_nat (by omega), List.all_cons]
    refine ev_pos (by omega) (ev_pos (by omega) ?_)
    by_cases c : (s.data.toList[i].toNat : Int) < 48
    · have e : isD s.data.toList[i] = false := by unfold isD; exact decide_eq_false (by omega)
      rw [e]; exact ev_pos c (ev_eq fun _ => rfl)
    by_cases c2 : (s.data.toList[i].toNat : Int) > 57
    · have e : isD s.data.toList[i] = false := by unfold isD; exact decide_eq_false (by omega)
      rw [e]; exact ev_neg c (ev_pos c2 (ev_eq fun _ => rfl))
    · have e : isD s.data.toList[i] = true := by unfold isD; exact decide_eq_true (by omega)
      rw [e, Bool.true_and]
      exact ev_neg c (ev_neg c2 (ih (i + 1) (by omega)))
theorem tkGood_ev (s : ByteArray) (hs : s.size ≤ 1000000) : Ev (fun k => spec_tkGood.f k s) (okTk s) := by
  unfold spec_tkGood.f okTk
  refine ev_bind (tkSize_eq _) ?_
  by_cases c : okSz (s.size : Int) = true
  · rw [c, Bool.true_and]; exact ev_pos rfl (good_loop s hs s.size 0 (by omega))
  · rw [Bool.not_eq_true] at c
    rw [c, Bool.false_and]; exact ev_neg (by decide) (ev_eq fun _ => rfl)
/-- a text of digits tells a number -/
theorem all_pad : ∀ (n : Nat) (l : List UInt8), l.length = n → l.all isD = true → ∃ m, m < 10 ^ n ∧ l = pad n m := by
  intro n
  induction n with
  | zero => intro l hl _; exact ⟨0, by decide, by rw [List.length_eq_zero_iff.mp hl]; rfl⟩
  | succ n ih =>
    intro l hl ha
    have hne : l ≠ [] := by intro e; rw [e] at hl; simp at hl
    obtain ⟨t, x, rfl⟩ : ∃ t x, l = t ++ [x] := ⟨l.dropLast, l.getLast hne, (List.dropLast_concat_getLast hne).symm⟩
    rw [List.all_append, Bool.and_eq_true] at ha
    obtain ⟨m, hm, rfl⟩ := ih t (by simpa using hl) ha.1
    have hx : 48 ≤ x.toNat ∧ x.toNat ≤ 57 := by have := ha.2; simp [isD] at this; exact this
    refine ⟨10 * m + (x.toNat - 48), cons_lt _ _ _ hm (by omega), ?_⟩
    simp only [pad]
    rw [show (10 * m + (x.toNat - 48)) / 10 = m by omega, show (10 * m + (x.toNat - 48)) % 10 = x.toNat - 48 by omega]
    congr 2
    unfold dch
    rw [show 48 + (x.toNat - 48) = x.toNat by omega]
    exact (UInt8.ofNat_toNat).symm
theorem tk_form {s : ByteArray} (h : okTk s = true) : ∃ q m : Nat, 1 ≤ q ∧ q ≤ 6 ∧ m < 10 ^ (2 * q) ∧ s = mkT (2 * q) m := by
  unfold okTk at h
  rw [Bool.and_eq_true] at h
  obtain ⟨q, h1, h6, hq⟩ := okSz_half h.1
  obtain ⟨m, hm, hl⟩ := all_pad (2 * q) s.data.toList (by rw [size_len]; omega) h.2
  exact ⟨q, m, h1, h6, hm, of_list hl⟩
theorem pad_all (n m : Nat) : (pad n m).all isD = true := by
  induction n generalizing m with
  | zero => rfl
  | succ n ih =>
    simp only [pad]
    rw [List.all_append, ih, Bool.true_and]
    have hh := dch_nat (Nat.mod_lt m (by decide : 0 < 10))
    have := Nat.mod_lt m (by decide : 0 < 10)
    simp [isD]; omega
theorem okTk_T (q m : Nat) (h1 : 1 ≤ q) (h6 : q ≤ 6) : okTk (mkT (2 * q) m) = true := by
  unfold okTk
  rw [T_size, okSz_of q h1 h6, T_list, pad_all]; rfl
theorem pad_inj (n : Nat) : ∀ a b, a < 10 ^ n → b < 10 ^ n → pad n a = pad n b → a = b := by
  intro a b ha hb e
  have h1 := lnum_pad n a ha
  have h2 := lnum_pad n b hb
  rw [e, h2] at h1; omega

/-! ### what the functions tell of tickets -/
theorem less_pad (n : Nat) : ∀ a b, a < 10 ^ n → b < 10 ^ n → Op.bytesLess (pad n a) (pad n b) = decide (a < b) := by
  have snoc : ∀ (l m : List UInt8) (x y : UInt8), l.length = m.length → Op.bytesLess (l ++ [x]) (m ++ [y]) = (Op.bytesLess l m || (l == m && decide (x < y))) := by
    intro l
    induction l with
    | nil =>
      intro m x y h
      obtain rfl : m = [] := List.length_eq_zero_iff.mp h.symm
      simp [Op.bytesLess]
    | cons c l ih =>
      intro m x y h
      cases m with
      | nil => simp at h
      | cons d m =>
        simp only [List.cons_append, Op.bytesLess]
        rw [ih m x y (by simpa using h)]
        by_cases e : c = d
        · subst e; simp
        · have e2 : (c == d) = false := by simpa using e
          have e3 : ((c :: l) == (d :: m)) = false := by simp [e]
          rw [e2, e3]; simp
  induction n with
  | zero => intro a b ha hb; have : a = 0 ∧ b = 0 := by simp at ha hb; omega
            obtain ⟨rfl, rfl⟩ := this; rfl
  | succ n ih =>
    intro a b ha hb
    simp only [pad]
    have h1 : a / 10 < 10 ^ n := by rw [Nat.pow_succ] at ha; omega
    have h2 : b / 10 < 10 ^ n := by rw [Nat.pow_succ] at hb; omega
    rw [snoc _ _ _ _ (by rw [pad_length, pad_length]), ih _ _ h1 h2]
    have e1 : (pad n (a / 10) == pad n (b / 10)) = decide (a / 10 = b / 10) := by
      rw [Bool.eq_iff_iff]; simp only [beq_iff_eq, decide_eq_true_eq]
      exact ⟨fun e => pad_inj n _ _ h1 h2 e, fun e => by rw [e]⟩
    have ha1 := Nat.mod_lt a (by decide : 0 < 10)
    have hb1 := Nat.mod_lt b (by decide : 0 < 10)
    have e2 : decide (dch (a % 10) < dch (b % 10)) = decide (a % 10 < b % 10) := by
      rw [decide_eq_decide]
      show (dch (a % 10)).toNat < (dch (b % 10)).toNat ↔ _
      rw [dch_nat ha1, dch_nat hb1]; omega
    rw [e1, e2, Bool.eq_iff_iff]
    simp only [Bool.or_eq_true, Bool.and_eq_true, decide_eq_true_eq]
    omega
theorem less_T (n a b : Nat) (ha : a < 10 ^ n) (hb : b < 10 ^ n) : Op.bytesLess (mkT n a).toList (mkT n b).toList = decide (a < b) := by
  rw [Lib.toList_data, Lib.toList_data, T_list, T_list]; exact less_pad n a b ha hb
theorem isLucky_ev (q m : Nat) (h1 : 1 ≤ q) (h6 : q ≤ 6) (hm : m < 10 ^ (2 * q)) : Ev (fun k => impl_isLucky.f k (mkT (2 * q) m)) (lky q m) := by
  have hw : wrap64 (((2 * q : Nat) : Int) / 2) = (q : Int) := by rw [wrap_of (by omega) (by omega)]; omega
  have hb1 : m / 10 ^ q < 10 ^ q := by rw [Nat.div_lt_iff_lt_mul (p10n _), ← Nat.pow_add, show q + q = 2 * q by omega]; exact hm
  have hb2 : m % 10 ^ q < 10 ^ q := Nat.mod_lt _ (p10n _)
  unfold impl_isLucky.f impl_halves.f
  rw [T_size, hw, if_pos (by omega), if_pos (by omega), Int.toNat_natCast, T_ext0 _ _ _ (by omega), T_ext1 _ _ _ (by omega), show 2 * q - q = q by omega]
  refine ev_bind rfl (Ev.bind (T_sum q _ hb1 (by omega)) (Ev.bind (T_sum q _ hb2 (by omega)) (ev_eq fun _ => ?_)))
  congr 1
theorem tkLucky_ev (q m : Nat) (h1 : 1 ≤ q) (h6 : q ≤ 6) (hm : m < 10 ^ (2 * q)) : Ev (fun k => spec_tkLucky.f k (mkT (2 * q) m)) (lky q m) := by
  have hw : wrap64 (((2 * q : Nat) : Int) / 2) = (q : Int) := by rw [wrap_of (by omega) (by omega)]; omega
  have hb1 : m / 10 ^ q < 10 ^ q := by rw [Nat.div_lt_iff_lt_mul (p10n _), ← Nat.pow_add, show q + q = 2 * q by omega]; exact hm
  have hb2 : m % 10 ^ q < 10 ^ q := Nat.mod_lt _ (p10n _)
  unfold spec_tkLucky.f spec_tkHalves.f
  rw [T_size, hw, Int.toNat_natCast, T_ext0 _ _ _ (by omega), T_ext1 _ _ _ (by omega), show 2 * q - q = q by omega]
  refine Ev.bind (a := (ds (m / 10 ^ q), ds (m % 10 ^ q))) (ev_pos (by omega) (ev_pos (by omega) (Ev.bind (sT_sum q _ hb1 (by omega)) (Ev.bind (sT_sum q _ hb2 (by omega)) (ev_eq fun _ => rfl))))) (ev_eq fun _ => ?_)
  congr 1
def total (q : Nat) : Int := cntL q (10 ^ (2 * q))
theorem total_bd (q : Nat) (h6 : q ≤ 6) : 0 ≤ total q ∧ total q ≤ 1000000000000 := by
  have h2 := cntL_le q (10 ^ (2 * q))
  have h5 := pow6 q h6
  exact ⟨cntL_nonneg _ _, by unfold total; omega⟩
theorem count_loop (q : Nat) (h6 : q ≤ 6) : ∀ d i : Nat, i + d = 9 * q + 1 → Ev (fun k => impl_countLucky.l0 k (AA q q 0 i) (wl q) ((9 * q + 1 : Nat) : Int) (i : Int)) (AA q q 0 (9 * q + 1)) := by
  intro d
  induction d with
  | zero =>
    intro i hi
    obtain rfl : i = 9 * q + 1 := by omega
    refine ev_succ ?_
    simp only [impl_countLucky.l0]
    exact ev_neg (by omega) (ev_eq fun _ => rfl)
  | succ d ih =>
    intro i hi
    have hlt : i < 9 * q + 1 := by omega
    have hl : (wl q).length = 9 * q + 1 := tab_len _ _
    have hr : rd (wl q) (i : Int) = W q (i : Int) := tab_rd hlt
    have h1 := W6 q h6 (i : Int)
    have h3 := Int.mul_nonneg h1.1 h1.1
    have h4 : W q (i : Int) * W q (i : Int) ≤ 1000000 * 1000000 := Int.mul_le_mul h1.2 h1.2 h1.1 (by decide)
    have h5 := sm_bd q q h6 h6 0 i
    have hn := ih (i + 1) (by omega)
    have e : AA q q 0 (i + 1) = AA q q 0 i + W q (i : Int) * W q (i : Int) := by unfold AA; rw [sm, Int.add_zero]
    rw [e] at hn
    refine ev_succ ?_
    simp only [impl_countLucky.l0]
    rw [hl, hr, wrap_nat (by omega), wrap_of (x := W q (i : Int) * W q (i : Int)) (by omega) (by omega), wrap_of (x := AA q q 0 i + W q (i : Int) * W q (i : Int)) (by omega) (by omega)]
    exact ev_pos (by omega) (ev_pos (by omega) (ev_pos (by omega) hn))
theorem countLucky_ev (q : Nat) (h1 : 1 ≤ q) (h6 : q ≤ 6) : Ev (fun k => impl_countLucky.f k ((2 * q : Nat) : Int)) (total q) := by
  unfold impl_countLucky.f total
  rw [half_eq q h6, cntL_all q h1]
  refine Ev.bind (iways_ev q (by omega)) ?_
  have hl : (wl q).length = 9 * q + 1 := tab_len _ _
  rw [hl]
  exact count_loop q h6 (9 * q + 1) 0 (by omega)
theorem tkFrom_all (q : Nat) (h1 : 1 ≤ q) (h6 : q ≤ 6) : Ev (fun k => spec_tkFrom.f k ((2 * q : Nat) : Int) (⟨#[]⟩ : ByteArray)) (total q) := by
  have := scomp_ev q 0 0 h1 h6 (by omega) (by decide)
  unfold total
  rw [cntL_all q h1, ← CL_all q h1]
  exact this
theorem of_both (q : Nat) (h1 : 1 ≤ q) (h6 : q ≤ 6) (R : Int) : (0 ≤ R ∧ R < total q ∧ ∃ m, m < 10 ^ (2 * q) ∧ lky q m = true ∧ cntL q m = R ∧ Ev (fun k => impl_LuckyOfRank.f k ((2 * q : Nat) : Int) R) (mkT (2 * q) m, true) ∧ Ev (fun k => spec_LuckyOfRank.f k ((2 * q : Nat) : Int) R) (mkT (2 * q) m, true) ∧ Ev (fun k => spec_tkRanked.f k ((2 * q : Nat) : Int) R) (mkT (2 * q) m)) ∨
    (¬ (0 ≤ R ∧ R < total q) ∧ Ev (fun k => impl_LuckyOfRank.f k ((2 * q : Nat) : Int) R) ((⟨#[]⟩ : ByteArray), false) ∧ Ev (fun k => spec_LuckyOfRank.f k ((2 * q : Nat) : Int) R) ((⟨#[]⟩ : ByteArray), false)) := by
  have ht := total_bd q h6
  have hw : wrap64 (total q - 1) = total q - 1 := wrap_of (by omega) (by omega)
  by_cases c : 0 ≤ R ∧ R < total q
  · have h00 : atRank q R 0 0 := by
      refine ⟨by decide, ?_, ?_⟩
      · rw [Nat.mul_zero]; simp only [cntL]; exact c.1
      · rw [Nat.sub_zero, Nat.zero_add, Nat.mul_one]; exact c.2
    obtain ⟨m, hm, e1⟩ := iof_l0 q h1 h6 R (2 * q) 0 0 (by omega) h00
    obtain ⟨m2, hm2, e2⟩ := sof_l0 q h1 h6 R (2 * q) 0 0 (by omega) h00
    obtain ⟨g1, g2, g3⟩ := atRank_end hm
    obtain ⟨f1, f2, f3⟩ := atRank_end hm2
    obtain rfl := cntL_inj g2 f2 (by omega)
    rw [Nat.mul_zero] at e1 e2
    simp only [cntL, Int.sub_zero] at e1 e2
    have e3 : Ev (fun k => spec_tkRanked.f k ((2 * q : Nat) : Int) R) (mkT (2 * q) m) := by unfold spec_tkRanked.f; exact e2
    refine .inl ⟨c.1, c.2, m, g1, g2, g3, ?_, ?_, e3⟩
    · unfold impl_LuckyOfRank.f
      refine ev_bind (isSize_eq _) (ev_pos (okSz_of q h1 h6) (Ev.bind (countLucky_ev q h1 h6) ?_))
      rw [hw]
      refine ev_bind (within_eq _ _ _) ?_
      rw [decide_eq_true (show 0 ≤ R ∧ R ≤ total q - 1 by omega)]
      refine ev_succ ?_
      simp only [impl_LuckyOfRank.j0]
      exact ev_neg (by decide) e1
    · unfold spec_LuckyOfRank.f
      exact ev_bind (tkSize_eq _) (ev_pos (okSz_of q h1 h6) (ev_neg (by omega) (Ev.bind (tkFrom_all q h1 h6) (ev_neg (by omega) (Ev.bind e3 (ev_eq fun _ => rfl))))))
  · refine .inr ⟨c, ?_, ?_⟩
    · unfold impl_LuckyOfRank.f
      refine ev_bind (isSize_eq _) (ev_pos (okSz_of q h1 h6) (Ev.bind (countLucky_ev q h1 h6) ?_))
      rw [hw]
      refine ev_bind (within_eq _ _ _) ?_
      rw [decide_eq_false (show ¬ (0 ≤ R ∧ R ≤ total q - 1) by omega)]
      refine ev_succ ?_
      simp only [impl_LuckyOfRank.j0]
      exact ev_pos (by decide) (ev_eq fun _ => rfl)
    · unfold spec_LuckyOfRank.f
      refine ev_bind (tkSize_eq _) (ev_pos (okSz_of q h1 h6) ?_)
      by_cases c2 : R < 0
      · exact ev_pos c2 (ev_eq fun _ => rfl)
      · exact ev_neg c2 (Ev.bind (tkFrom_all q h1 h6) (ev_pos (by omega) (ev_eq fun _ => rfl)))
theorem of_none (n R : Int) (hn : ¬ okSz n = true) : Ev (fun k => impl_LuckyOfRank.f k n R) ((⟨#[]⟩ : ByteArray), false) ∧ Ev (fun k => spec_LuckyOfRank.f k n R) ((⟨#[]⟩ : ByteArray), false) := by
  refine ⟨?_, ?_⟩
  · unfold impl_LuckyOfRank.f
    refine ev_bind (isSize_eq _) (ev_neg hn (ev_succ ?_))
    simp only [impl_LuckyOfRank.j0]
    exact ev_pos (by decide) (ev_eq fun _ => rfl)
  · unfold spec_LuckyOfRank.f
    exact ev_bind (tkSize_eq _) (ev_neg hn (ev_eq fun _ => rfl))
/-- how far the next and the last lucky one are -/
def nxtP (q m : Nat) (r : ByteArray × Bool) : Prop := (∃ x, m < x ∧ x < 10 ^ (2 * q) ∧ lky q x = true ∧ cntL q x = cntL q (m + 1) ∧ r = (mkT (2 * q) x, true)) ∨ r = ((⟨#[]⟩ : ByteArray), false)
def lstP (q m : Nat) (r : ByteArray × Bool) : Prop := (∃ x, x < m ∧ lky q x = true ∧ cntL q x = cntL q m - 1 ∧ r = (mkT (2 * q) x, true)) ∨ (cntL q m = 0 ∧ r = ((⟨#[]⟩ : ByteArray), false))
theorem tkNext_j {q : Nat} {s : ByteArray} {R : Int} {r : ByteArray × Bool} (h1 : 1 ≤ q) (h6 : q ≤ 6) (hs : s.size = 2 * q) (h : (¬ (0 ≤ R ∧ R < total q) ∧ r = ((⟨#[]⟩ : ByteArray), false)) ∨ (0 ≤ R ∧ R < total q ∧ ∃ m, r = (mkT (2 * q) m, true) ∧ Ev (fun k => spec_tkRanked.f k ((2 * q : Nat) : Int) R) (mkT (2 * q) m))) : Ev (fun k => spec_tkNext.j0 k s R) r := by
  refine ev_succ ?_
  simp only [spec_tkNext.j0]
  rw [hs]
  rcases h with ⟨c, rfl⟩ | ⟨c1, c2, m, rfl, e⟩
  · by_cases c2 : R < 0
    · exact ev_pos c2 (ev_eq fun _ => rfl)
    · exact ev_neg c2 (Ev.bind (tkFrom_all q h1 h6) (ev_pos (by omega) (ev_eq fun _ => rfl)))
  · exact ev_neg (by omega) (Ev.bind (tkFrom_all q h1 h6) (ev_neg (by omega) (Ev.bind e (ev_eq fun _ => rfl))))
theorem cnt12 (q m : Nat) (h6 : q ≤ 6) (hm : m ≤ 10 ^ (2 * q)) : 0 ≤ cntL q m ∧ cntL q m ≤ 1000000000000 := by
  have h2 := cntL_le q m
  have h5 := pow6 q h6
  exact ⟨cntL_nonneg _ _, by omega⟩
theorem next_both (q m : Nat) (h1 : 1 ≤ q) (h6 : q ≤ 6) (hm : m < 10 ^ (2 * q)) : ∃ r, nxtP q m r ∧ Ev (fun k => impl_NextLucky.f k (mkT (2 * q) m)) r ∧ Ev (fun k => spec_NextLucky.f k (mkT (2 * q) m)) r ∧ Ev (fun k => spec_tkNext.f k (mkT (2 * q) m) true) r := by
  have hc := cnt12 q m h6 (Nat.le_of_lt hm)
  have hb := okTk_T q m h1 h6
  have hsz : (mkT (2 * q) m).size ≤ 1000000 := by rw [T_size]; omega
  have hR : wrap64 (cntL q m + (if lky q m = true then 1 else 0)) = cntL q (m + 1) := by
    rw [show cntL q (m + 1) = cntL q m + (if lky q m = true then 1 else 0) from rfl]
    refine wrap_of ?_ ?_ <;> split <;> omega
  have hbit : ∀ b : Bool, impl_bit.f b = some (if b = true then 1 else 0) := by intro b; cases b <;> rfl
  have imp : ∀ r, Ev (fun k => impl_LuckyOfRank.f k ((2 * q : Nat) : Int) (cntL q (m + 1))) r → Ev (fun k => impl_NextLucky.f k (mkT (2 * q) m)) r := fun r e => by
    unfold impl_NextLucky.f
    refine Ev.bind (isTicket_ev _ hsz) (ev_pos hb (Ev.bind (irank_ev q m h1 h6 hm) (Ev.bind (isLucky_ev q m h1 h6 hm) (ev_bind (hbit _) ?_))))
    rw [T_size, hR]
    exact Ev.bind e (ev_eq fun _ => rfl)
  have spc : ∀ r, Ev (fun k => spec_tkNext.j0 k (mkT (2 * q) m) (cntL q (m + 1))) r → Ev (fun k => spec_tkNext.f k (mkT (2 * q) m) true) r := fun r e => by
    unfold spec_tkNext.f
    refine Ev.bind (srank_ev q m h1 h6 hm) (ev_pos rfl (Ev.bind (tkLucky_ev q m h1 h6 hm) ?_))
    have e1 : wrap64 (wrap64 (cntL q m - 1) + 1) = cntL q m := by rw [wrap_of (x := cntL q m - 1) (by omega) (by omega), wrap_of (by omega) (by omega)]; omega
    rw [e1]
    by_cases c : lky q m = true
    · rw [if_pos c] at hR; rw [hR]; exact ev_pos c e
    · rw [if_neg c, Int.add_zero] at hR
      have : cntL q m = cntL q (m + 1) := by rw [← hR, wrap_of (by omega) (by omega)]
      rw [← this] at e
      exact ev_neg c e
  have sp2 : ∀ r, Ev (fun k => spec_tkNext.f k (mkT (2 * q) m) true) r → Ev (fun k => spec_NextLucky.f k (mkT (2 * q) m)) r := fun r e => by
    unfold spec_NextLucky.f
    exact Ev.bind (tkGood_ev _ hsz) (ev_pos hb (Ev.bind e (ev_eq fun _ => rfl)))
  rcases of_both q h1 h6 (cntL q (m + 1)) with ⟨c1, c2, x, g1, g2, g3, e1, _, e3⟩ | ⟨c, e1, _⟩
  · have hlt : m < x := by
      rcases Nat.lt_or_ge m x with h | h
      · exact h
      · have := cntL_mono q (m := x + 1) (n := m + 1) (by omega); rw [cntL_hit g2] at this; omega
    have hsp := spc _ (tkNext_j h1 h6 (T_size _ _) (.inr ⟨c1, c2, x, rfl, e3⟩))
    exact ⟨_, .inl ⟨x, hlt, g1, g2, g3, rfl⟩, imp _ e1, sp2 _ hsp, hsp⟩
  · have hsp := spc _ (tkNext_j h1 h6 (T_size _ _) (.inl ⟨c, rfl⟩))
    exact ⟨_, .inr rfl, imp _ e1, sp2 _ hsp, hsp⟩
theorem last_both (q m : Nat) (h1 : 1 ≤ q) (h6 : q ≤ 6) (hm : m < 10 ^ (2 * q)) : ∃ r, lstP q m r ∧ Ev (fun k => impl_LastLucky.f k (mkT (2 * q) m)) r ∧ Ev (fun k => spec_LastLucky.f k (mkT (2 * q) m)) r ∧ Ev (fun k => spec_tkNext.f k (mkT (2 * q) m) false) r := by
  have hc := cnt12 q m h6 (Nat.le_of_lt hm)
  have hb := okTk_T q m h1 h6
  have hsz : (mkT (2 * q) m).size ≤ 1000000 := by rw [T_size]; omega
  have hw : wrap64 (cntL q m - 1) = cntL q m - 1 := wrap_of (by omega) (by omega)
  have imp : ∀ r, Ev (fun k => impl_LuckyOfRank.f k ((2 * q : Nat) : Int) (cntL q m - 1)) r → Ev (fun k => impl_LastLucky.f k (mkT (2 * q) m)) r := fun r e => by
    unfold impl_LastLucky.f
    refine Ev.bind (isTicket_ev _ hsz) (ev_pos hb (Ev.bind (irank_ev q m h1 h6 hm) ?_))
    rw [T_size, hw]
    exact Ev.bind e (ev_eq fun _ => rfl)
  have spc : ∀ r, Ev (fun k => spec_tkNext.j0 k (mkT (2 * q) m) (cntL q m - 1)) r → Ev (fun k => spec_tkNext.f k (mkT (2 * q) m) false) r := fun r e => by
    unfold spec_tkNext.f
    refine Ev.bind (srank_ev q m h1 h6 hm) (ev_neg (by decide) ?_)
    rw [hw]; exact e
  have sp2 : ∀ r, Ev (fun k => spec_tkNext.f k (mkT (2 * q) m) false) r → Ev (fun k => spec_LastLucky.f k (mkT (2 * q) m)) r := fun r e => by
    unfold spec_LastLucky.f
    exact Ev.bind (tkGood_ev _ hsz) (ev_pos hb (Ev.bind e (ev_eq fun _ => rfl)))
  have htot := cntL_mono q (Nat.le_of_lt hm)
  rcases of_both q h1 h6 (cntL q m - 1) with ⟨c1, c2, x, g1, g2, g3, e1, _, e3⟩ | ⟨c, e1, _⟩
  · have hlt : x < m := cntL_lt_of (h := q) (by omega)
    have hsp := spc _ (tkNext_j h1 h6 (T_size _ _) (.inr ⟨c1, c2, x, rfl, e3⟩))
    exact ⟨_, .inl ⟨x, hlt, g2, g3, rfl⟩, imp _ e1, sp2 _ hsp, hsp⟩
  · have hsp := spc _ (tkNext_j h1 h6 (T_size _ _) (.inl ⟨c, rfl⟩))
    exact ⟨_, .inr ⟨by unfold total at c; omega, rfl⟩, imp _ e1, sp2 _ hsp, hsp⟩
theorem num_loop (n m : Nat) (hn : n ≤ 12) (hm : m < 10 ^ n) : ∀ d i : Nat, i + d = n → Ev (fun k => impl_numberOf.l0 k (mkT n m) ((m / 10 ^ (n - i) : Nat) : Int) (n : Int) (i : Int)) (m : Int) := by
  intro d
  induction d with
  | zero =>
    intro i hi
    obtain rfl : i = n := by omega
    refine ev_succ ?_
    simp only [impl_numberOf.l0]
    exact ev_neg (by omega) (ev_eq fun _ => by simp)
  | succ d ih =>
    intro i hi
    have hp := pre_lt n m i (by omega) hm
    have h12 : (10 : Nat) ^ i ≤ 10 ^ 12 := Nat.pow_le_pow_right (by decide) (by omega)
    have ht := Nat.mod_lt (m / 10 ^ (n - 1 - i)) (by decide : 0 < 10)
    have hn2 := ih (i + 1) (by omega)
    rw [pre_step n m i (by omega)] at hn2
    refine ev_succ ?_
    simp only [impl_numberOf.l0]
    rw [T_size, T_bt _ _ _ (by omega), wrap_nat (by omega)]
    generalize m / 10 ^ (n - i) = p at *
    generalize m / 10 ^ (n - 1 - i) % 10 = t at *
    rw [ show (48 + (t : Int) - 48) % 256 = (t : Int) by omega, wrap_of (x := 10 * (p : Int)) (by omega) (by omega), wrap_of (by omega) (by omega)]
    refine ev_pos (by omega) (ev_pos (by omega) (ev_pos (by omega) ?_))
    rw [show 10 * (p : Int) + (t : Int) = ((10 * p + t : Nat) : Int) by omega]
    exact hn2
theorem numberOf_T (n m : Nat) (hn : n ≤ 12) (hm : m < 10 ^ n) : Ev (fun k => impl_numberOf.f k (mkT n m)) (m : Int) := by
  unfold impl_numberOf.f
  rw [T_size]
  have := num_loop n m hn hm n 0 (by omega)
  rw [Nat.sub_zero, Nat.div_eq_of_lt hm] at this
  exact this
theorem snum_loop (n m : Nat) (hn : n ≤ 12) (hm : m < 10 ^ n) : ∀ d i : Nat, i + d = n → Ev (fun k => spec_tkNumber.l0 k (mkT n m) ((m / 10 ^ (n - i) : Nat) : Int) (i : Int)) (m : Int) := by
  intro d
  induction d with
  | zero =>
    intro i hi
    obtain rfl : i = n := by omega
    refine ev_succ ?_
    simp only [spec_tkNumber.l0]
    exact ev_neg (by rw [T_size]; omega) (ev_eq fun _ => by simp)
  | succ d ih =>
    intro i hi
    have hp := pre_lt n m i (by omega) hm
    have h12 : (10 : Nat) ^ i ≤ 10 ^ 12 := Nat.pow_le_pow_right (by decide) (by omega)
    have ht := Nat.mod_lt (m / 10 ^ (n - 1 - i)) (by decide : 0 < 10)
    have hn2 := ih (i + 1) (by omega)
    rw [pre_step n m i (by omega)] at hn2
    refine ev_succ ?_
    simp only [spec_tkNumber.l0]
    rw [T_size, T_bt _ _ _ (by omega), wrap_nat (by omega)]
    generalize m / 10 ^ (n - i) = p at *
    generalize m / 10 ^ (n - 1 - i) % 10 = t at *
    rw [ show (48 + (t : Int) - 48) % 256 = (t : Int) by omega, wrap_of (x := (p : Int) * 10) (by omega) (by omega), wrap_of (by omega) (by omega)]
    refine ev_pos (by omega) (ev_pos (by omega) ?_)
    rw [show (p : Int) * 10 + (t : Int) = ((10 * p + t : Nat) : Int) by omega]
    exact hn2
theorem tkNumber_T (n m : Nat) (hn : n ≤ 12) (hm : m < 10 ^ n) : Ev (fun k => spec_tkNumber.f k (mkT n m)) (m : Int) := by
  unfold spec_tkNumber.f
  have := snum_loop n m hn hm n 0 (by omega)
  rw [Nat.sub_zero, Nat.div_eq_of_lt hm] at this
  exact this

/-! ### both sides' functions for all texts -/
theorem tk_size {s : ByteArray} (h : okTk s = true) : s.size ≤ 12 := by
  obtain ⟨q, m, h1, h6, hm, rfl⟩ := tk_form h
  rw [T_size]; omega
def lkG (s : ByteArray) : Bool := okTk s && lky (s.size / 2) (lnum 0 s.data.toList).toNat
theorem T_num (n m : Nat) (hm : m < 10 ^ n) : (lnum 0 (mkT n m).data.toList).toNat = m := by rw [T_list, lnum_pad n m hm]; omega
theorem lkG_T (q m : Nat) (h1 : 1 ≤ q) (h6 : q ≤ 6) (hm : m < 10 ^ (2 * q)) : lkG (mkT (2 * q) m) = lky q m := by
  unfold lkG
  rw [okTk_T q m h1 h6, T_num _ m hm, T_size, show 2 * q / 2 = q by omega, Bool.true_and]
theorem isL_both (s : ByteArray) (hs : s.size ≤ 1000000) : Ev (fun k => impl_IsLucky.f k s) (lkG s, okTk s) ∧ Ev (fun k => spec_IsLucky.f k s) (lkG s, okTk s) := by
  by_cases c : okTk s = true
  · obtain ⟨q, m, h1, h6, hm, rfl⟩ := tk_form c
    rw [lkG_T q m h1 h6 hm, c]
    refine ⟨?_, ?_⟩
    · unfold impl_IsLucky.f
      exact Ev.bind (isTicket_ev _ hs) (ev_pos c (Ev.bind (isLucky_ev q m h1 h6 hm) (ev_eq fun _ => rfl)))
    · unfold spec_IsLucky.f
      exact Ev.bind (tkGood_ev _ hs) (ev_pos c (Ev.bind (tkLucky_ev q m h1 h6 hm) (ev_eq fun _ => rfl)))
  · have e : lkG s = false := by unfold lkG; rw [Bool.not_eq_true] at c; rw [c]; rfl
    have c' := c
    rw [Bool.not_eq_true] at c'
    rw [e, c']
    refine ⟨?_, ?_⟩
    · unfold impl_IsLucky.f
      exact Ev.bind (isTicket_ev _ hs) (ev_neg c (ev_eq fun _ => rfl))
    · unfold spec_IsLucky.f
      exact Ev.bind (tkGood_ev _ hs) (ev_neg c (ev_eq fun _ => rfl))
def rkG (s : ByteArray) : Int := if okTk s = true then cntL (s.size / 2) (lnum 0 s.data.toList).toNat else 0
theorem rkG_T (q m : Nat) (h1 : 1 ≤ q) (h6 : q ≤ 6) (hm : m < 10 ^ (2 * q)) : rkG (mkT (2 * q) m) = cntL q m := by
  unfold rkG
  rw [if_pos (okTk_T q m h1 h6), T_num _ m hm, T_size, show 2 * q / 2 = q by omega]
theorem rk_both (s : ByteArray) (hs : s.size ≤ 1000000) : Ev (fun k => impl_RankOfLucky.f k s) (rkG s, okTk s) ∧ Ev (fun k => spec_RankOfLucky.f k s) (rkG s, okTk s) := by
  by_cases c : okTk s = true
  · obtain ⟨q, m, h1, h6, hm, rfl⟩ := tk_form c
    rw [rkG_T q m h1 h6 hm, c]
    refine ⟨?_, ?_⟩
    · unfold impl_RankOfLucky.f
      exact Ev.bind (isTicket_ev _ hs) (ev_pos c (Ev.bind (irank_ev q m h1 h6 hm) (ev_eq fun _ => rfl)))
    · unfold spec_RankOfLucky.f
      exact Ev.bind (tkGood_ev _ hs) (ev_pos c (Ev.bind (srank_ev q m h1 h6 hm) (ev_eq fun _ => rfl)))
  · have e : rkG s = 0 := by unfold rkG; rw [if_neg c]
    have c' := c
    rw [Bool.not_eq_true] at c'
    rw [e, c']
    refine ⟨?_, ?_⟩
    · unfold impl_RankOfLucky.f
      exact Ev.bind (isTicket_ev _ hs) (ev_neg c (ev_eq fun _ => rfl))
    · unfold spec_RankOfLucky.f
      exact Ev.bind (tkGood_ev _ hs) (ev_neg c (ev_eq fun _ => rfl))
def nmG (s : ByteArray) : Int := if okTk s = true then lnum 0 s.data.toList else 0
theorem nmG_T (q m : Nat) (h1 : 1 ≤ q) (h6 : q ≤ 6) (hm : m < 10 ^ (2 * q)) : nmG (mkT (2 * q) m) = (m : Int) := by
  unfold nmG
  rw [if_pos (okTk_T q m h1 h6), T_list, lnum_pad _ m hm]
theorem nm_both (s : ByteArray) (hs : s.size ≤ 1000000) : Ev (fun k => impl_NumberOfTicket.f k s) (nmG s, okTk s) ∧ Ev (fun k => spec_NumberOfTicket.f k s) (nmG s, okTk s) := by
  by_cases c : okTk s = true
  · obtain ⟨q, m, h1, h6, hm, rfl⟩ := tk_form c
    rw [nmG_T q m h1 h6 hm, c]
    refine ⟨?_, ?_⟩
    · unfold impl_NumberOfTicket.f
      exact Ev.bind (isTicket_ev _ hs) (ev_pos c (Ev.bind (numberOf_T (2 * q) m (by omega) hm) (ev_eq fun _ => rfl)))
    · unfold spec_NumberOfTicket.f
      exact Ev.bind (tkGood_ev _ hs) (ev_pos c (Ev.bind (tkNumber_T (2 * q) m (by omega) hm) (ev_eq fun _ => rfl)))
  · have e : nmG s = 0 := by unfold nmG; rw [if_neg c]
    have c' := c
    rw [Bool.not_eq_true] at c'
    rw [e, c']
    refine ⟨?_, ?_⟩
    · unfold impl_NumberOfTicket.f
      exact Ev.bind (isTicket_ev _ hs) (ev_neg c (ev_eq fun _ => rfl))
    · unfold spec_NumberOfTicket.f
      exact Ev.bind (tkGood_ev _ hs) (ev_neg c (ev_eq fun _ => rfl))
theorem sIsTicket_ev (s : ByteArray) (hs : s.size ≤ 1000000) : Ev (fun k => spec_IsTicket.f k s) (okTk s) := by
  unfold spec_IsTicket.f
  exact Ev.bind (tkGood_ev _ hs) (ev_eq fun _ => rfl)
theorem num_bd (n m : Nat) (hn : n ≤ 12) (hm : m < 10 ^ n) : (m : Int) < 1000000000000 := by
  have h12 : (10 : Nat) ^ n ≤ 10 ^ 12 := Nat.pow_le_pow_right (by decide) hn
  omega
/-- gaps: how far the last and the next one are -/
def bfG (q m : Nat) (l : ByteArray × Bool) : Int := if l.2 = true then (m : Int) - lnum 0 l.1.data.toList else 0
def bhG (q m : Nat) (n : ByteArray × Bool) : Int := if n.2 = true then lnum 0 n.1.data.toList - (m : Int) else 0
theorem T_ln (n m : Nat) (hm : m < 10 ^ n) : lnum 0 (mkT n m).data.toList = (m : Int) := by rw [T_list, lnum_pad n m hm]
theorem gaps_both (q m : Nat) (h1 : 1 ≤ q) (h6 : q ≤ 6) (hm : m < 10 ^ (2 * q)) {l n : ByteArray × Bool} (hl : lstP q m l) (hn : nxtP q m n)
    (el : Ev (fun k => impl_LastLucky.f k (mkT (2 * q) m)) l) (en : Ev (fun k => impl_NextLucky.f k (mkT (2 * q) m)) n) (sl : Ev (fun k => spec_tkNext.f k (mkT (2 * q) m) false) l) (sn : Ev (fun k => spec_tkNext.f k (mkT (2 * q) m) true) n) :
    Ev (fun k => impl_GapsAround.f k (mkT (2 * q) m)) (bfG q m l, bhG q m n, true) ∧ Ev (fun k => spec_GapsAround.f k (mkT (2 * q) m)) (bfG q m l, bhG q m n, true) := by
  have hb := okTk_T q m h1 h6
  have hsz : (mkT (2 * q) m).size ≤ 1000000 := by rw [T_size]; omega
  have hmb := num_bd (2 * q) m (by omega) hm
  have inum : Ev (fun k => impl_numberOf.f k (mkT (2 * q) m)) (m : Int) := numberOf_T (2 * q) m (by omega) hm
  have snum : Ev (fun k => spec_tkNumber.f k (mkT (2 * q) m)) (m : Int) := tkNumber_T (2 * q) m (by omega) hm
  have ij : ∀ x : Int, Ev (fun k => impl_GapsAround.j0 k (mkT (2 * q) m) x 0) (x, bhG q m n, true) := fun x => by
    refine ev_succ ?_
    simp only [impl_GapsAround.j0]
    refine Ev.bind en ?_
    rcases hn with ⟨y, g1, g2, _, _, rfl⟩ | rfl
    · have hyb := num_bd (2 * q) y (by omega) g2
      unfold bhG
      rw [if_pos rfl, T_ln _ y g2]
      refine ev_pos rfl (Ev.bind (numberOf_T (2 * q) y (by omega) g2) (Ev.bind inum (ev_eq fun _ => ?_)))
      rw [wrap_of (by omega) (by omega)]
    · exact ev_neg (by simp) (ev_eq fun _ => by unfold bhG; rw [if_neg (by simp)])
  have sj : ∀ x : Int, Ev (fun k => spec_GapsAround.j0 k (mkT (2 * q) m) x 0) (x, bhG q m n, true) := fun x => by
    refine ev_succ ?_
    simp only [spec_GapsAround.j0]
    refine Ev.bind sn ?_
    rcases hn with ⟨y, g1, g2, _, _, rfl⟩ | rfl
    · have hyb := num_bd (2 * q) y (by omega) g2
      unfold bhG
      rw [if_pos rfl, T_ln _ y g2]
      refine ev_pos rfl (Ev.bind (tkNumber_T (2 * q) y (by omega) g2) (Ev.bind snum (ev_eq fun _ => ?_)))
      rw [wrap_of (by omega) (by omega)]
    · exact ev_neg (by simp) (ev_eq fun _ => by unfold bhG; rw [if_neg (by simp)])
  refine ⟨?_, ?_⟩
  · unfold impl_GapsAround.f
    refine Ev.bind (isTicket_ev _ hsz) (ev_pos hb (Ev.bind el ?_))
    rcases hl with ⟨y, g1, _, _, rfl⟩ | ⟨_, rfl⟩
    · have g2 : y < 10 ^ (2 * q) := by omega
      have hyb := num_bd (2 * q) y (by omega) g2
      have := ij (bfG q m (mkT (2 * q) y, true))
      have e : bfG q m (mkT (2 * q) y, true) = (m : Int) - y := by unfold bfG; rw [if_pos rfl, T_ln _ y g2]
      refine ev_pos rfl (Ev.bind inum (Ev.bind (numberOf_T (2 * q) y (by omega) g2) ?_))
      rw [wrap_of (by omega) (by omega), ← e]; exact this
    · have := ij (bfG q m ((⟨#[]⟩ : ByteArray), false))
      exact ev_neg (by simp) this
  · unfold spec_GapsAround.f
    refine Ev.bind (tkGood_ev _ hsz) (ev_pos hb (Ev.bind sl ?_))
    rcases hl with ⟨y, g1, _, _, rfl⟩ | ⟨_, rfl⟩
    · have g2 : y < 10 ^ (2 * q) := by omega
      have hyb := num_bd (2 * q) y (by omega) g2
      have := sj (bfG q m (mkT (2 * q) y, true))
      have e : bfG q m (mkT (2 * q) y, true) = (m : Int) - y := by unfold bfG; rw [if_pos rfl, T_ln _ y g2]
      refine ev_pos rfl (Ev.bind snum (Ev.bind (tkNumber_T (2 * q) y (by omega) g2) ?_))
      rw [wrap_of (by omega) (by omega), ← e]; exact this
    · have := sj (bfG q m ((⟨#[]⟩ : ByteArray), false))
      exact ev_neg (by simp) this
theorem none_all (s : ByteArray) (hs : s.size ≤ 1000000) (c : ¬ okTk s = true) : Ev (fun k => impl_NextLucky.f k s) ((⟨#[]⟩ : ByteArray), false) ∧ Ev (fun k => spec_NextLucky.f k s) ((⟨#[]⟩ : ByteArray), false) ∧ Ev (fun k => impl_LastLucky.f k s) ((⟨#[]⟩ : ByteArray), false) ∧ Ev (fun k => spec_LastLucky.f k s) ((⟨#[]⟩ : ByteArray), false) ∧ Ev (fun k => impl_GapsAround.f k s) (0, 0, false) ∧ Ev (fun k => spec_GapsAround.f k s) (0, 0, false) := by
  refine ⟨?_, ?_, ?_, ?_, ?_, ?_⟩
  · unfold impl_NextLucky.f; exact Ev.bind (isTicket_ev _ hs) (ev_neg c (ev_eq fun _ => rfl))
  · unfold spec_NextLucky.f; exact Ev.bind (tkGood_ev _ hs) (ev_neg c (ev_eq fun _ => rfl))
  · unfold impl_LastLucky.f; exact Ev.bind (isTicket_ev _ hs) (ev_neg c (ev_eq fun _ => rfl))
  · unfold spec_LastLucky.f; exact Ev.bind (tkGood_ev _ hs) (ev_neg c (ev_eq fun _ => rfl))
  · unfold impl_GapsAround.f; exact Ev.bind (isTicket_ev _ hs) (ev_neg c (ev_eq fun _ => rfl))
  · unfold spec_GapsAround.f; exact Ev.bind (tkGood_ev _ hs) (ev_neg c (ev_eq fun _ => rfl))
theorem ticketOf (q m : Nat) (h1 : 1 ≤ q) (h6 : q ≤ 6) (hm : m < 10 ^ (2 * q)) : impl_TicketOfNumber.f ((2 * q : Nat) : Int) (m : Int) = some (mkT (2 * q) m, true) := by
  unfold impl_TicketOfNumber.f
  have hmb := num_bd (2 * q) m (by omega) hm
  have hd := nDigits_le m (2 * q) (by omega) hm
  obtain ⟨K, hK⟩ := ipadded_ev m (2 * q) (by omega) hm (by omega)
  have hK := hK K (Nat.le_refl _)
  dsimp only at hK
  rw [isSize_eq, Option.bind_some, if_pos (okSz_of q h1 h6), if_neg (by omega), itoa_nat m (by omega), Option.bind_some, mk_size, Lib.decDigits_length, if_neg (by omega), hK]
  rfl
/-! counts between tickets -/
theorem between_in (q x y : Nat) (h1 : 1 ≤ q) (h6 : q ≤ 6) (hxy : x ≤ y) (hy : y < 10 ^ (2 * q)) : Ev (fun k => impl_CountLuckyBetween.f k (mkT (2 * q) x) (mkT (2 * q) y)) (cntL q (y + 1) - cntL q (x + 1), true) ∧ Ev (fun k => spec_CountLuckyBetween.f k (mkT (2 * q) x) (mkT (2 * q) y)) (cntL q (y + 1) - cntL q (x + 1), true) := by
  have hx : x < 10 ^ (2 * q) := by omega
  have c1 := okTk_T q x h1 h6
  have c2 := okTk_T q y h1 h6
  have ha : (mkT (2 * q) x).size ≤ 1000000 := by rw [T_size]; omega
  have hb : (mkT (2 * q) y).size ≤ 1000000 := by rw [T_size]; omega
  have hlt := less_T (2 * q) y x hy hx
  have f1 : ∀ r, Ev (fun k => impl_CountLuckyBetween.j0 k (mkT (2 * q) x) (mkT (2 * q) y) (decide (y < x))) r → Ev (fun k => impl_CountLuckyBetween.f k (mkT (2 * q) x) (mkT (2 * q) y)) r := fun r e => by
    unfold impl_CountLuckyBetween.f
    rw [hlt]
    exact Ev.bind (isTicket_ev _ ha) (ev_pos c1 (Ev.bind (isTicket_ev _ hb) (ev_pos c2 (ev_pos (by rw [T_size, T_size]) e))))
  have f2 : ∀ r, Ev (fun k => spec_CountLuckyBetween.j0 k (mkT (2 * q) x) (mkT (2 * q) y) (decide (y < x))) r → Ev (fun k => spec_CountLuckyBetween.f k (mkT (2 * q) x) (mkT (2 * q) y)) r := fun r e => by
    unfold spec_CountLuckyBetween.f
    rw [hlt]
    exact Ev.bind (tkGood_ev _ ha) (ev_pos c1 (Ev.bind (tkGood_ev _ hb) (ev_pos c2 (ev_pos (by rw [T_size, T_size]) e))))
  rw [decide_eq_false (show ¬ y < x by omega)] at f1 f2
  refine ⟨f1 _ ?_, f2 _ ?_⟩
  · have hbit : ∀ b : Bool, impl_bit.f b = some (if b = true then 1 else 0) := by intro b; cases b <;> rfl
    have b1 := cnt12 q x h6 (by omega)
    have b2 := cnt12 q y h6 (by omega)
    refine ev_succ ?_
    simp only [impl_CountLuckyBetween.j0]
    refine ev_neg (by decide) (Ev.bind (irank_ev q y h1 h6 hy) (Ev.bind (isLucky_ev q y h1 h6 hy) (ev_bind (hbit _) (Ev.bind (irank_ev q x h1 h6 hx) (Ev.bind (isLucky_ev q x h1 h6 hx) (ev_bind (hbit _) (ev_eq fun _ => ?_)))))))
    simp only [cntL]
    have e1 : 0 ≤ (if lky q x = true then (1 : Int) else 0) ∧ (if lky q x = true then (1 : Int) else 0) ≤ 1 := by split <;> omega
    have e2 : 0 ≤ (if lky q y = true then (1 : Int) else 0) ∧ (if lky q y = true then (1 : Int) else 0) ≤ 1 := by split <;> omega
    generalize (if lky q x = true then (1 : Int) else 0) = u at *
    generalize (if lky q y = true then (1 : Int) else 0) = v at *
    rw [wrap_of (x := cntL q y + v) (by omega) (by omega), wrap_of (x := cntL q y + v - cntL q x) (by omega) (by omega), wrap_of (by omega) (by omega)]
    congr 2; omega
  · have b1 := cnt12 q x h6 (by omega)
    have b2 := cnt12 q y h6 (by omega)
    have w1 : wrap64 (cntL q y - cntL q x) = cntL q y - cntL q x := wrap_of (by omega) (by omega)
    have w2 : wrap64 (cntL q y - cntL q x - 1) = cntL q y - cntL q x - 1 := wrap_of (by omega) (by omega)
    have w3 : wrap64 (cntL q y - cntL q x - 1 + 1) = cntL q y - cntL q x - 1 + 1 := wrap_of (by omega) (by omega)
    have w4 : wrap64 (cntL q y - cntL q x + 1) = cntL q y - cntL q x + 1 := wrap_of (by omega) (by omega)
    refine ev_succ ?_
    simp only [spec_CountLuckyBetween.j0, cntL]
    refine ev_neg (by decide) (Ev.bind (srank_ev q y h1 h6 hy) (Ev.bind (srank_ev q x h1 h6 hx) (Ev.bind (tkLucky_ev q x h1 h6 hx) ?_)))
    rw [w1, w2, w3, w4]
    by_cases d1 : lky q x = true
    · refine ev_pos d1 (Ev.bind (tkLucky_ev q y h1 h6 hy) ?_)
      rw [if_pos d1]
      by_cases d2 : lky q y = true
      · simp only [if_pos d2]; refine ev_eq fun _ => ?_; congr 2; omega
      · simp only [if_neg d2]; refine ev_eq fun _ => ?_; congr 2; omega
    · refine ev_neg d1 (Ev.bind (tkLucky_ev q y h1 h6 hy) ?_)
      rw [if_neg d1]
      by_cases d2 : lky q y = true
      · simp only [if_pos d2]; refine ev_eq fun _ => ?_; congr 2; omega
      · simp only [if_neg d2]; refine ev_eq fun _ => ?_; congr 2; omega
theorem between_both (a b : ByteArray) (ha : a.size ≤ 1000000) (hb : b.size ≤ 1000000) : (Ev (fun k => impl_CountLuckyBetween.f k a b) (0, false) ∧ Ev (fun k => spec_CountLuckyBetween.f k a b) (0, false)) ∨
    (∃ q x y : Nat, 1 ≤ q ∧ q ≤ 6 ∧ x ≤ y ∧ y < 10 ^ (2 * q) ∧ a = mkT (2 * q) x ∧ b = mkT (2 * q) y ∧ Ev (fun k => impl_CountLuckyBetween.f k a b) (cntL q (y + 1) - cntL q (x + 1), true) ∧ Ev (fun k => spec_CountLuckyBetween.f k a b) (cntL q (y + 1) - cntL q (x + 1), true)) := by
  have it : Ev (fun k => impl_CountLuckyBetween.j0 k a b true) (0, false) := ev_succ (by simp only [impl_CountLuckyBetween.j0]; exact ev_pos trivial (ev_eq fun _ => rfl))
  have st : Ev (fun k => spec_CountLuckyBetween.j0 k a b true) (0, false) := ev_succ (by simp only [spec_CountLuckyBetween.j0]; exact ev_pos trivial (ev_eq fun _ => rfl))
  by_cases c1 : okTk a = true
  rotate_left
  · refine .inl ⟨?_, ?_⟩
    · unfold impl_CountLuckyBetween.f; exact Ev.bind (isTicket_ev _ ha) (ev_neg c1 it)
    · unfold spec_CountLuckyBetween.f; exact Ev.bind (tkGood_ev _ ha) (ev_neg c1 st)
  by_cases c2 : okTk b = true
  rotate_left
  · refine .inl ⟨?_, ?_⟩
    · unfold impl_CountLuckyBetween.f; exact Ev.bind (isTicket_ev _ ha) (ev_pos c1 (Ev.bind (isTicket_ev _ hb) (ev_neg c2 it)))
    · unfold spec_CountLuckyBetween.f; exact Ev.bind (tkGood_ev _ ha) (ev_pos c1 (Ev.bind (tkGood_ev _ hb) (ev_neg c2 st)))
  by_cases c3 : (a.size : Int) = (b.size : Int)
  rotate_left
  · refine .inl ⟨?_, ?_⟩
    · unfold impl_CountLuckyBetween.f; exact Ev.bind (isTicket_ev _ ha) (ev_pos c1 (Ev.bind (isTicket_ev _ hb) (ev_pos c2 (ev_neg c3 it))))
    · unfold spec_CountLuckyBetween.f; exact Ev.bind (tkGood_ev _ ha) (ev_pos c1 (Ev.bind (tkGood_ev _ hb) (ev_pos c2 (ev_neg c3 st))))
  obtain ⟨q, x, h1, h6, hx, rfl⟩ := tk_form c1
  obtain ⟨q2, y, g1, g6, hy, rfl⟩ := tk_form c2
  rw [T_size, T_size] at c3
  obtain rfl : q = q2 := by omega
  have hlt := less_T (2 * q) y x hy hx
  have f1 : ∀ r, Ev (fun k => impl_CountLuckyBetween.j0 k (mkT (2 * q) x) (mkT (2 * q) y) (decide (y < x))) r → Ev (fun k => impl_CountLuckyBetween.f k (mkT (2 * q) x) (mkT (2 * q) y)) r := fun r e => by
    unfold impl_CountLuckyBetween.f
    rw [hlt]
    exact Ev.bind (isTicket_ev _ ha) (ev_pos c1 (Ev.bind (isTicket_ev _ hb) (ev_pos c2 (ev_pos (by rw [T_size, T_size]) e))))
  have f2 : ∀ r, Ev (fun k => spec_CountLuckyBetween.j0 k (mkT (2 * q) x) (mkT (2 * q) y) (decide (y < x))) r → Ev (fun k => spec_CountLuckyBetween.f k (mkT (2 * q) x) (mkT (2 * q) y)) r := fun r e => by
    unfold spec_CountLuckyBetween.f
    rw [hlt]
    exact Ev.bind (tkGood_ev _ ha) (ev_pos c1 (Ev.bind (tkGood_ev _ hb) (ev_pos c2 (ev_pos (by rw [T_size, T_size]) e))))
  by_cases c : y < x
  · rw [decide_eq_true c] at f1 f2
    exact .inl ⟨f1 _ it, f2 _ st⟩
  · obtain ⟨e1, e2⟩ := between_in q x y h1 h6 (by omega) hy
    exact .inr ⟨q, x, y, h1, h6, by omega, hy, rfl, rfl, e1, e2⟩

/-! ### sums of lucky ones, counts of tickets -/
def sqs (q : Nat) : List Int := tab (9 * q + 1) (fun i => W q i * W q i)
theorem sqs_len (q : Nat) : (sqs q).length = 9 * q + 1 := tab_len _ _
theorem sqs_rd (q i : Nat) (h : i < 9 * q + 1) : rd (sqs q) (i : Int) = W q i * W q i := tab_rd h
theorem sq_bd (q : Nat) (h6 : q ≤ 6) (i : Int) : 0 ≤ W q i * W q i ∧ W q i * W q i ≤ 1000000000000 := by
  have h1 := W6 q h6 i
  have h4 : W q i * W q i ≤ 1000000 * 1000000 := Int.mul_le_mul h1.2 h1.2 h1.1 (by decide)
  exact ⟨Int.mul_nonneg h1.1 h1.1, by omega⟩
theorem isums_loop (q : Nat) (h6 : q ≤ 6) : ∀ d i : Nat, i + d = 9 * q + 1 → Ev (fun k => impl_SumsOfLucky.l0 k (tab (9 * q + 1) (fun j => if j < i then W q j * W q j else W q j)) (i : Int)) (sqs q) := by
  intro d
  induction d with
  | zero =>
    intro i hi
    refine ev_succ ?_
    simp only [impl_SumsOfLucky.l0]
    refine ev_neg (by rw [tab_len]; omega) (ev_eq fun _ => ?_)
    congr 1
    exact tab_congr (fun j hj => if_pos (by omega))
  | succ d ih =>
    intro i hi
    have hs := sq_bd q h6 (i : Int)
    have hn := ih (i + 1) (by omega)
    refine ev_succ ?_
    simp only [impl_SumsOfLucky.l0]
    rw [tab_len, tab_rd (show i < 9 * q + 1 by omega), if_neg (Nat.lt_irrefl i), Int.toNat_natCast, tab_set, wrap_nat (by omega), wrap_of (x := W q (i : Int) * W q (i : Int)) (by omega) (by omega)]
    refine ev_pos (by omega) (ev_pos (by omega) ?_)
    have e : tab (9 * q + 1) (fun j => if j = i then W q (i : Int) * W q (i : Int) else if j < i then W q (j : Int) * W q (j : Int) else W q (j : Int)) = tab (9 * q + 1) (fun j => if j < i + 1 then W q (j : Int) * W q (j : Int) else W q (j : Int)) := by
      refine tab_congr (fun j _ => ?_)
      by_cases c : j = i
      · subst c; rw [if_pos rfl, if_pos (by omega)]
      · rw [if_neg c]
        by_cases c2 : j < i
        · rw [if_pos c2, if_pos (by omega)]
        · rw [if_neg c2, if_neg (by omega)]
    rw [e]; exact hn
theorem ssums_loop (q : Nat) (h6 : q ≤ 6) : ∀ d i : Nat, i + d = 9 * q + 1 → Ev (fun k => spec_SumsOfLucky.l0 k (tab i (fun i => W q i * W q i)) (wl q) ((9 * q + 1 : Nat) : Int) (i : Int)) (sqs q, true) := by
  intro d
  induction d with
  | zero =>
    intro i hi
    obtain rfl : i = 9 * q + 1 := by omega
    refine ev_succ ?_
    simp only [spec_SumsOfLucky.l0]
    exact ev_neg (by omega) (ev_eq fun _ => rfl)
  | succ d ih =>
    intro i hi
    have hlt : i < 9 * q + 1 := by omega
    have hs := sq_bd q h6 (i : Int)
    have hl : (wl q).length = 9 * q + 1 := tab_len _ _
    have hr : rd (wl q) (i : Int) = W q (i : Int) := tab_rd hlt
    have hn := ih (i + 1) (by omega)
    have e : tab (i + 1) (fun i => W q (i : Int) * W q (i : Int)) = tab i (fun i => W q (i : Int) * W q (i : Int)) ++ [W q (i : Int) * W q (i : Int)] := by unfold tab; rw [List.range_succ, List.map_append]; rfl
    rw [e] at hn
    refine ev_succ ?_
    simp only [spec_SumsOfLucky.l0]
    rw [hl, hr, tab_len, wrap_nat (by omega), wrap_of (x := W q (i : Int) * W q (i : Int)) (by omega) (by omega)]
    exact ev_pos (by omega) (ev_pos (by omega) (ev_pos (by omega) (ev_pos (by omega) hn)))
def smG (n : Int) : List Int × Bool := if okSz n = true then (sqs (n / 2).toNat, true) else ([], false)
theorem half_nat (q : Nat) : (((2 * q : Nat) : Int) / 2).toNat = q := by omega
theorem sums_both (n : Int) : Ev (fun k => impl_SumsOfLucky.f k n) (smG n) ∧ Ev (fun k => spec_SumsOfLucky.f k n) (smG n) := by
  unfold smG
  by_cases c : okSz n = true
  · rw [if_pos c]
    obtain ⟨q, h1, h6, rfl⟩ := okSz_half c
    rw [half_nat]
    have hl : (wl q).length = 9 * q + 1 := tab_len _ _
    refine ⟨?_, ?_⟩
    · unfold impl_SumsOfLucky.f
      rw [half_eq q h6]
      have h0 := isums_loop q h6 (9 * q + 1) 0 (by omega)
      have e : tab (9 * q + 1) (fun j => if j < 0 then W q (j : Int) * W q (j : Int) else W q (j : Int)) = wl q := tab_congr (fun j _ => if_neg (by omega))
      rw [e] at h0
      exact ev_bind (isSize_eq _) (ev_pos c (Ev.bind (iways_ev q (by omega)) (Ev.bind h0 (ev_eq fun _ => rfl))))
    · unfold spec_SumsOfLucky.f
      rw [half_eq q h6]
      refine ev_bind (tkSize_eq _) (ev_pos c (Ev.bind (sways_ev q (by omega)) ?_))
      rw [hl]
      exact ssums_loop q h6 (9 * q + 1) 0 (by omega)
  · rw [if_neg c]
    refine ⟨?_, ?_⟩
    · unfold impl_SumsOfLucky.f; exact ev_bind (isSize_eq _) (ev_neg c (ev_eq fun _ => rfl))
    · unfold spec_SumsOfLucky.f; exact ev_bind (tkSize_eq _) (ev_neg c (ev_eq fun _ => rfl))
def clkG (n : Int) : Int × Bool := if okSz n = true then (total (n / 2).toNat, true) else (0, false)
theorem count_both (n : Int) : Ev (fun k => impl_CountLucky.f k n) (clkG n) ∧ Ev (fun k => spec_CountLucky.f k n) (clkG n) := by
  unfold clkG
  by_cases c : okSz n = true
  · rw [if_pos c]
    obtain ⟨q, h1, h6, rfl⟩ := okSz_half c
    rw [half_nat]
    refine ⟨?_, ?_⟩
    · unfold impl_CountLucky.f; exact ev_bind (isSize_eq _) (ev_pos c (Ev.bind (countLucky_ev q h1 h6) (ev_eq fun _ => rfl)))
    · unfold spec_CountLucky.f; exact ev_bind (tkSize_eq _) (ev_pos c (Ev.bind (tkFrom_all q h1 h6) (ev_eq fun _ => rfl)))
  · rw [if_neg c]
    refine ⟨?_, ?_⟩
    · unfold impl_CountLucky.f; exact ev_bind (isSize_eq _) (ev_neg c (ev_eq fun _ => rfl))
    · unfold spec_CountLucky.f; exact ev_bind (tkSize_eq _) (ev_neg c (ev_eq fun _ => rfl))
theorem tickets_in (q : Nat) (h1 : 1 ≤ q) (h6 : q ≤ 6) (a b : Int) (ha : 0 ≤ a) (hb : 0 ≤ b) : Ev (fun k => impl_CountTickets.f k ((2 * q : Nat) : Int) a b) (W q a * W q b, true) := by
  have g1 := W6 q h6 a
  have g2 := W6 q h6 b
  have g3 := Int.mul_nonneg g1.1 g2.1
  have g4 : W q a * W q b ≤ 1000000 * 1000000 := Int.mul_le_mul g1.2 g2.2 g2.1 (by decide)
  unfold impl_CountTickets.f
  refine ev_bind (isSize_eq _) (ev_pos (okSz_of q h1 h6) (ev_neg (by omega) ?_))
  rw [decide_eq_false (show ¬ b < 0 by omega)]
  refine ev_succ ?_
  simp only [impl_CountTickets.j0]
  rw [half_eq q h6]
  refine ev_neg (by decide) (Ev.bind (iways_ev q (by omega)) (ev_bind (at_wl q (by omega) a) (ev_bind (at_wl q (by omega) b) (ev_eq fun _ => ?_))))
  rw [wrap_of (by omega) (by omega)]
theorem luckyOf_in (q : Nat) (h1 : 1 ≤ q) (h6 : q ≤ 6) (a : Int) (ha : 0 ≤ a) : Ev (fun k => impl_CountLuckyOf.f k ((2 * q : Nat) : Int) a) (W q a * W q a, true) := by
  unfold impl_CountLuckyOf.f
  exact Ev.bind (tickets_in q h1 h6 a a ha ha) (ev_eq fun _ => rfl)
theorem sumE_loop (q : Nat) (h6 : q ≤ 6) : ∀ d i : Nat, i + d = 9 * q + 1 → Ev (fun k => laws_eSum.l0 k (AA q q 0 i) (sqs q) ((sqs q).length : Int) (i : Int)) (AA q q 0 (9 * q + 1)) := by
  intro d
  induction d with
  | zero =>
    intro i hi
    obtain rfl : i = 9 * q + 1 := by omega
    refine ev_succ ?_
    simp only [laws_eSum.l0]
    exact ev_neg (by rw [sqs_len]; omega) (ev_eq fun _ => rfl)
  | succ d ih =>
    intro i hi
    have hs := sq_bd q h6 (i : Int)
    have h5 := sm_bd q q h6 h6 0 i
    have hn := ih (i + 1) (by omega)
    have e : AA q q 0 (i + 1) = AA q q 0 i + W q (i : Int) * W q (i : Int) := by unfold AA; rw [sm, Int.add_zero]
    rw [e] at hn
    refine ev_succ ?_
    simp only [laws_eSum.l0]
    rw [sqs_rd q i (by omega), wrap_nat (by omega), wrap_of (by omega) (by omega)]
    exact ev_pos (by rw [sqs_len]; omega) (ev_pos (by omega) (ev_pos (by rw [sqs_len]; omega) hn))
theorem sumE_ev (q : Nat) (h1 : 1 ≤ q) (h6 : q ≤ 6) : Ev (fun k => laws_eSum.f k (sqs q)) (total q) := by
  unfold laws_eSum.f total
  rw [cntL_all q h1]
  exact sumE_loop q h6 (9 * q + 1) 0 (by omega)

theorem eSame_refl (l : List Int) (hl : l.length ≤ 1000000) : Ev (fun k => laws_eSame.f k l l) true := by
  have go : ∀ d i : Nat, i + d = l.length → Ev (fun k => laws_eSame.l0 k l l (l.length : Int) (i : Int)) true := by
    intro d
    induction d with
    | zero =>
      intro i hi
      refine ev_succ ?_
      simp only [laws_eSame.l0]
      exact ev_neg (by omega) (ev_eq fun _ => rfl)
    | succ d ih =>
      intro i hi
      refine ev_succ ?_
      simp only [laws_eSame.l0]
      rw [wrap_nat (by omega)]
      exact ev_pos (by omega) (ev_pos (by omega) (ev_pos (by omega) (ev_pos (by omega) (ev_pos trivial (ih (i + 1) (by omega))))))
  unfold laws_eSame.f
  exact ev_pos rfl (go l.length 0 (by omega))

/-! ### choices out of bytes: each of them is made -/
def Bytes (l : List Int) : Prop := ∀ x ∈ l, (Lit.int .u8 x).wf = true
theorem byte_range {l : List Int} (h : Bytes l) {i : Int} (h0 : 0 ≤ i) (h1 : i < (l.length : Int)) : 0 ≤ rd l i ∧ rd l i ≤ 255 := by
  have hm : rd l i ∈ l := by
    unfold rd
    rw [List.getD_eq_getElem?_getD, List.getElem?_eq_getElem (by omega)]
    exact List.getElem_mem _
  have := h _ hm
  have h2 := by simpa only [Lit.wf, Bool.and_eq_true, decide_eq_true_eq] using this
  exact ⟨h2.1, h2.2⟩
theorem and255 (x : Int) (h0 : 0 ≤ x) (h1 : x < 18446744073709551616) : 0 ≤ Go.bits .and .u64 x 255 ∧ Go.bits .and .u64 x 255 ≤ 255 := by
  obtain ⟨n, rfl⟩ : ∃ n : Nat, x = (n : Int) := ⟨x.toNat, by omega⟩
  have h := bits_and_u64_nat n 255 (by omega) (by omega)
  have h2 := Nat.and_le_right (n := n) (m := 255)
  rw [show ((255 : Nat) : Int) = 255 from rfl] at h
  rw [h]
  omega
theorem u64_range (x : Int) : 0 ≤ IntKind.u64.wrap x ∧ IntKind.u64.wrap x < 18446744073709551616 := by
  rw [IntKind.wrap_u64]; omega
theorem tail255 (x : Int) : ∃ v, wrap64 (Go.bits .and .u64 (IntKind.u64.wrap x / 1099511627776) 255) = v ∧ 0 ≤ v ∧ v ≤ 255 := by
  have h := u64_range x
  have h2 := and255 (IntKind.u64.wrap x / 1099511627776) (by omega) (by omega)
  exact ⟨_, wrap_of (by omega) (by omega), h2.1, h2.2⟩
theorem next_ok (l : List Int) (hl : Bytes l) (a s : Int) (h0 : 0 ≤ a) (h1 : a ≤ 1000000000000) : ∃ v s', spec_l1Cur_next.f l a s = some (v, a + 1, s') ∧ 0 ≤ v ∧ v ≤ 255 := by
  unfold spec_l1Cur_next.f
  have hw : wrap64 (a + 1) = a + 1 := wrap_of (by omega) (by omega)
  rw [hw]
  by_cases c : a < (l.length : Int)
  · have hb := byte_range hl h0 c
    rw [if_pos c, if_pos h0, if_pos (by omega), wrap_of (x := rd l a) (by omega) (by omega)]
    exact ⟨_, _, rfl, hb.1, hb.2⟩
  · rw [if_neg c, if_neg (by omega)]
    obtain ⟨v, hv, g⟩ := tail255 (IntKind.u64.wrap (IntKind.u64.wrap (s * 6364136223846793005)) + 1442695040888963407)
    rw [hv]
    exact ⟨v, _, rfl, g.1, g.2⟩
theorem tmod_range {x n : Int} (h0 : 0 ≤ x) (hn : 0 < n) : 0 ≤ Int.tmod x n ∧ Int.tmod x n < n := by
  rw [Int.tmod_eq_emod_of_nonneg h0]
  exact ⟨Int.emod_nonneg _ (by omega), Int.emod_lt_of_pos _ hn⟩
theorem pick_ok (l : List Int) (hl : Bytes l) (a s n : Int) (h0 : 0 ≤ a) (h1 : a ≤ 900000000000) : ∃ v a' s', spec_l1Cur_pick.f l a s n = some (v, a', s') ∧ 0 ≤ v ∧ (v < n ∨ v = 0) ∧ a ≤ a' ∧ a' ≤ a + 2 := by
  unfold spec_l1Cur_pick.f
  by_cases c : n ≤ 1
  · rw [if_pos c]
    exact ⟨0, a, s, rfl, Int.le_refl 0, .inr rfl, Int.le_refl a, by omega⟩
  · rw [if_neg c]
    obtain ⟨v, s1, hv, v0, v1⟩ := next_ok l hl a s h0 (by omega)
    rw [hv]
    simp only [Option.bind_some]
    by_cases c2 : n > 200
    · rw [if_pos c2]
      obtain ⟨u, s2, hu, u0, u1⟩ := next_ok l hl (a + 1) s1 (by omega) (by omega)
      rw [hu]
      simp only [Option.bind_some]
      rw [if_neg (by omega), wrap_of (x := v * 256) (by omega) (by omega), wrap_of (x := v * 256 + u) (by omega) (by omega)]
      have ht := tmod_range (x := v * 256 + u) (n := n) (by omega) (by omega)
      exact ⟨_, _, _, rfl, ht.1, .inl ht.2, by omega, by omega⟩
    · rw [if_neg c2, if_neg (by omega)]
      have ht := tmod_range (x := v) (n := n) v0 (by omega)
      exact ⟨_, _, _, rfl, ht.1, .inl ht.2, by omega, by omega⟩
theorem among_ok (l : List Int) (hl : Bytes l) (a s : Int) (m : List Int) (hm : 0 < m.length) (h0 : 0 ≤ a) (h1 : a ≤ 900000000000) : ∃ v a' s', spec_l1Cur_among.f l a s m = some (v, a', s') ∧ v ∈ m ∧ a ≤ a' ∧ a' ≤ a + 2 := by
  unfold spec_l1Cur_among.f
  obtain ⟨v, a', s', hv, v0, v1, g⟩ := pick_ok l hl a s (m.length : Int) h0 h1
  rw [hv]
  simp only [Option.bind_some]
  have hlt : v < (m.length : Int) := by rcases v1 with h | h <;> omega
  rw [if_pos v0, if_pos hlt]
  refine ⟨_, a', s', rfl, ?_, g⟩
  unfold rd
  rw [List.getD_eq_getElem?_getD, List.getElem?_eq_getElem (by omega)]
  exact List.getElem_mem _

/-! ### tickets drawn -/
theorem one_ok (l : List Int) (hl : Bytes l) (a s n : Int) (h0 : 0 ≤ a) (h1 : a ≤ 900000000000) : ∃ v a' s', spec_l1Cur_one.f l a s n = some (v, a', s') ∧ a ≤ a' ∧ a' ≤ a + 2 := by
  unfold spec_l1Cur_one.f
  obtain ⟨v, a', s', hv, _, _, g⟩ := pick_ok l hl a s n h0 h1
  rw [hv]
  exact ⟨_, a', s', rfl, g⟩
theorem size_ok (l : List Int) (hl : Bytes l) (a s : Int) (h0 : 0 ≤ a) (h1 : a ≤ 800000000000) : ∃ v a' s', spec_l1Cur_size.f l a s = some (v, a', s') ∧ a ≤ a' ∧ a' ≤ a + 10 := by
  unfold spec_l1Cur_size.f
  obtain ⟨x, a1, s1, hx, g1, g2⟩ := one_ok l hl a s 14 h0 (by omega)
  rw [hx]
  simp only [Option.bind_some]
  by_cases c : x = true
  · rw [if_pos c]
    obtain ⟨y, a2, s2, hy, _, e1, e2⟩ := among_ok l hl a1 s1 [0, 1, 3, (-2), 12, 14, 4611686018427387904] (by decide) (by omega) (by omega)
    rw [hy]
    exact ⟨_, a2, s2, rfl, by omega, by omega⟩
  · rw [if_neg c]
    obtain ⟨y, a2, s2, hy, _, e1, e2⟩ := among_ok l hl a1 s1 [2, 4, 6, 4, 6, 8] (by decide) (by omega) (by omega)
    rw [hy]
    exact ⟨_, a2, s2, rfl, by omega, by omega⟩
theorem sure_loop (l : List Int) (hl : Bytes l) (n : Nat) (hn : n ≤ 100) : ∀ (d i : Nat) (t : ByteArray) (a s : Int), i + d = n → t.size = i → 0 ≤ a → a + 2 * d ≤ 800000000300 → ∃ v a' s', Ev (fun k => spec_l1Cur_sureTicket.l0 k (n : Int) t (i : Int) l a s) (v, a', s') ∧ v.size = n ∧ a ≤ a' ∧ a' ≤ a + 2 * d := by
  intro d
  induction d with
  | zero =>
    intro i t a s hi ht h0 h1
    refine ⟨t, a, s, ev_succ ?_, by omega, Int.le_refl _, by omega⟩
    simp only [spec_l1Cur_sureTicket.l0]
    exact ev_neg (by omega) (ev_eq fun _ => rfl)
  | succ d ih =>
    intro i t a s hi ht h0 h1
    obtain ⟨x, a1, s1, hx, x0, x1, g1, g2⟩ := pick_ok l hl a s 10 h0 (by omega)
    obtain ⟨m, rfl⟩ : ∃ m : Nat, x = (m : Int) := ⟨x.toNat, by omega⟩
    have hm := l1Num_ev m (by omega)
    rw [Lib.decDigits_one (by omega)] at hm
    have hsz : (t ++ (⟨[UInt8.ofNat (48 + m)].toArray⟩ : ByteArray)).size = i + 1 := by rw [ByteArray.size_append, mk_size [UInt8.ofNat (48 + m)], ht]; rfl
    obtain ⟨v, a2, s2, hv, hz, e1, e2⟩ := ih (i + 1) (t ++ (⟨[UInt8.ofNat (48 + m)].toArray⟩ : ByteArray)) a1 s1 (by omega) hsz (by omega) (by omega)
    refine ⟨v, a2, s2, ev_succ ?_, hz, by omega, by omega⟩
    simp only [spec_l1Cur_sureTicket.l0]
    rw [wrap_nat (by omega)]
    exact ev_pos (by omega) (ev_bind hx (Ev.bind hm (ev_pos (by rw [mk_size [UInt8.ofNat (48 + m)], ht]; simp; omega) hv)))
theorem sure_ok (l : List Int) (hl : Bytes l) (a s : Int) (n : Nat) (hn : n ≤ 100) (h0 : 0 ≤ a) (h1 : a ≤ 800000000000) : ∃ v a' s', Ev (fun k => spec_l1Cur_sureTicket.f k l a s (n : Int)) (v, a', s') ∧ v.size = n ∧ a ≤ a' ∧ a' ≤ a + 200 := by
  obtain ⟨v, a', s', h, hz, e1, e2⟩ := sure_loop l hl n hn n 0 (⟨#[]⟩ : ByteArray) a s (by omega) rfl h0 (by omega)
  refine ⟨v, a', s', ?_, hz, e1, by omega⟩
  unfold spec_l1Cur_sureTicket.f
  exact h
theorem of_ok (l : List Int) (hl : Bytes l) (a s : Int) (m : List ByteArray) (hm : 0 < m.length) (h0 : 0 ≤ a) (h1 : a ≤ 900000000000) : ∃ v a' s', spec_l1Cur_of.f l a s m = some (v, a', s') ∧ v ∈ m ∧ a ≤ a' ∧ a' ≤ a + 2 := by
  unfold spec_l1Cur_of.f
  obtain ⟨v, a', s', hv, v0, v1, g⟩ := pick_ok l hl a s (m.length : Int) h0 h1
  rw [hv]
  simp only [Option.bind_some]
  have hlt : v < (m.length : Int) := by rcases v1 with h | h <;> omega
  rw [if_pos v0, if_pos hlt]
  refine ⟨_, a', s', rfl, ?_, g⟩
  unfold rdOf
  rw [List.getD_eq_getElem?_getD, List.getElem?_eq_getElem (by omega)]
  exact List.getElem_mem _
theorem turn_loop (l : List Int) (h : ByteArray) (hh : h.size ≤ 100) (a s : Int) : ∀ (d : Nat) (t : ByteArray), d ≤ h.size → t.size + d = h.size → ∃ v, Ev (fun k => spec_l1Cur_ticket.l0 k h t ((d : Int) - 1) l a s) (v, a, s) ∧ v.size = 2 * h.size := by
  intro d
  induction d with
  | zero =>
    intro t _ ht
    refine ⟨h ++ t, ev_succ ?_, by rw [ByteArray.size_append]; omega⟩
    simp only [spec_l1Cur_ticket.l0]
    exact ev_neg (by omega) (ev_pos (by omega) (ev_eq fun _ => rfl))
  | succ d ih =>
    intro t hd ht
    have hx : (h.extract d (d + 1)).size = 1 := by rw [ByteArray.size_extract]; omega
    obtain ⟨v, hv, hz⟩ := ih (t ++ h.extract d (d + 1)) (by omega) (by rw [ByteArray.size_append, hx]; omega)
    refine ⟨v, ev_succ ?_, hz⟩
    simp only [spec_l1Cur_ticket.l0]
    rw [show ((d + 1 : Nat) : Int) - 1 = (d : Int) by omega, wrap_nat (by omega), wrap_of (x := (d : Int) - 1) (by omega) (by omega), Int.toNat_natCast, Int.toNat_natCast]
    exact ev_pos (by omega) (ev_pos (by omega) (ev_pos (by omega) (ev_pos (by omega) (ev_pos (by rw [hx]; omega) hv))))
theorem ticket_j (l : List Int) (hl : Bytes l) (b : Bool) (a s : Int) (h0 : 0 ≤ a) (h1 : a ≤ 700000000000) : ∃ v a' s', Ev (fun k => spec_l1Cur_ticket.j0 k b l a s) (v, a', s') ∧ v.size ≤ 20 ∧ a ≤ a' ∧ a' ≤ a + 300 := by
  cases b with
  | true =>
    obtain ⟨x, a1, s1, hx, x0, x1, g1, g2⟩ := pick_ok l hl a s 3 h0 (by omega)
    obtain ⟨m, rfl⟩ : ∃ m : Nat, x = (m : Int) := ⟨x.toNat, by omega⟩
    obtain ⟨h, a2, s2, hs, hz, e1, e2⟩ := sure_ok l hl a1 s1 (1 + m) (by omega) (by omega) (by omega)
    obtain ⟨v, hv, hz2⟩ := turn_loop l h (by omega) a2 s2 h.size (⟨#[]⟩ : ByteArray) (Nat.le_refl _) (by show 0 + h.size = h.size; omega)
    refine ⟨v, a2, s2, ev_succ ?_, by omega, by omega, by omega⟩
    simp only [spec_l1Cur_ticket.j0]
    refine ev_pos trivial (ev_bind hx ?_)
    rw [show wrap64 (1 + (m : Int)) = ((1 + m : Nat) : Int) by rw [wrap_of (by omega) (by omega)]; omega]
    refine Ev.bind hs ?_
    rw [wrap_of (x := (h.size : Int) - 1) (by omega) (by omega)]
    exact hv
  | false =>
    obtain ⟨y, a1, s1, hy, hm, g1, g2⟩ := among_ok l hl a s [2, 4, 6, 4, 6, 8] (by decide) h0 (by omega)
    obtain ⟨m, rfl, hm8⟩ : ∃ m : Nat, y = (m : Int) ∧ m ≤ 8 := by
      simp only [List.mem_cons, List.not_mem_nil, or_false] at hm
      exact ⟨y.toNat, by omega, by omega⟩
    obtain ⟨v, a2, s2, hs, hz, e1, e2⟩ := sure_ok l hl a1 s1 m (by omega) (by omega) (by omega)
    refine ⟨v, a2, s2, ev_succ ?_, by omega, by omega, by omega⟩
    simp only [spec_l1Cur_ticket.j0]
    exact ev_neg (by decide) (ev_bind hy (Ev.bind hs (ev_eq fun _ => rfl)))
theorem ticket_ok (l : List Int) (hl : Bytes l) (a s : Int) (h0 : 0 ≤ a) (h1 : a ≤ 600000000000) : ∃ v a' s', Ev (fun k => spec_l1Cur_ticket.f k l a s) (v, a', s') ∧ v.size ≤ 20 ∧ a ≤ a' ∧ a' ≤ a + 400 := by
  obtain ⟨x, a1, s1, hx, _, _, g1, g2⟩ := pick_ok l hl a s 16 h0 (by omega)
  unfold spec_l1Cur_ticket.f
  by_cases c : x = 0
  · obtain ⟨v, a2, s2, hv, hm, e1, e2⟩ := of_ok l hl a1 s1 [(⟨#[]⟩ : ByteArray), (⟨#[49]⟩ : ByteArray), (⟨#[49, 50, 120, 52]⟩ : ByteArray), (⟨#[49, 50, 51]⟩ : ByteArray), (⟨#[48, 48, 48, 48, 48, 48, 48, 48, 48, 48, 48, 48, 48]⟩ : ByteArray), (⟨#[57, 57, 57, 57, 57, 57, 57, 57, 57, 57, 57, 57]⟩ : ByteArray), (⟨#[48, 48, 48, 48, 48, 48, 48, 48, 48, 48, 48, 48, 48, 48]⟩ : ByteArray)] (by decide) (by omega) (by omega)
    refine ⟨v, a2, s2, ev_bind hx (ev_pos c (ev_bind hv (ev_eq fun _ => rfl))), ?_, by omega, by omega⟩
    simp only [List.mem_cons, List.not_mem_nil, or_false] at hm
    rcases hm with rfl | rfl | rfl | rfl | rfl | rfl | rfl <;> decide
  by_cases c1 : x = 1
  · obtain ⟨v, a2, s2, hv, hm, e1, e2⟩ := of_ok l hl a1 s1 [(⟨#[48, 48, 48, 48, 48, 48]⟩ : ByteArray), (⟨#[57, 57, 57, 57, 57, 57]⟩ : ByteArray), (⟨#[48, 48, 48, 48]⟩ : ByteArray), (⟨#[57, 57, 57, 57]⟩ : ByteArray), (⟨#[48, 48]⟩ : ByteArray), (⟨#[57, 57]⟩ : ByteArray), (⟨#[57, 57, 57, 48]⟩ : ByteArray), (⟨#[48, 48, 48, 48, 48, 49]⟩ : ByteArray)] (by decide) (by omega) (by omega)
    refine ⟨v, a2, s2, ev_bind hx (ev_neg c (ev_pos c1 (ev_bind hv (ev_eq fun _ => rfl)))), ?_, by omega, by omega⟩
    simp only [List.mem_cons, List.not_mem_nil, or_false] at hm
    rcases hm with rfl | rfl | rfl | rfl | rfl | rfl | rfl | rfl <;> decide
  by_cases c2 : x = 2
  · obtain ⟨v, a2, s2, hv, hz, e1, e2⟩ := ticket_j l hl (x == 2) a1 s1 (by omega) (by omega)
    exact ⟨v, a2, s2, ev_bind hx (ev_neg c (ev_neg c1 (ev_pos c2 hv))), hz, by omega, by omega⟩
  by_cases c3 : x = 3
  · obtain ⟨v, a2, s2, hv, hz, e1, e2⟩ := ticket_j l hl (x == 3) a1 s1 (by omega) (by omega)
    exact ⟨v, a2, s2, ev_bind hx (ev_neg c (ev_neg c1 (ev_neg c2 (ev_pos c3 hv)))), hz, by omega, by omega⟩
  · obtain ⟨v, a2, s2, hv, hz, e1, e2⟩ := ticket_j l hl (x == 4) a1 s1 (by omega) (by omega)
    exact ⟨v, a2, s2, ev_bind hx (ev_neg c (ev_neg c1 (ev_neg c2 (ev_neg c3 hv)))), hz, by omega, by omega⟩
theorem drawRank_ok (l : List Int) (hl : Bytes l) : ∃ v w, spec_DrawLuckyOfRank.f l = some (v, w) := by
  obtain ⟨v, a, s, h, g1, g2⟩ := size_ok l hl 0 0 (by omega) (by omega)
  obtain ⟨y, a2, s2, hy, _, e1, e2⟩ := among_ok l hl a s [0, 1, 2, 9, 10, 100, 669, 670, 55251, 55252, (-1), 4611686018427387904] (by decide) (by omega) (by omega)
  unfold spec_DrawLuckyOfRank.f
  rw [h]
  simp only [Option.bind_some]
  rw [hy]
  exact ⟨_, _, rfl⟩
theorem drawNext_ok (l : List Int) (hl : Bytes l) : ∃ v, Ev (fun k => spec_DrawNextLucky.f k l) v ∧ v.size ≤ 20 := by
  obtain ⟨v, a, s, h, hz, _, _⟩ := ticket_ok l hl 0 0 (by omega) (by omega)
  unfold spec_DrawNextLucky.f spec_DrawIsTicket.f
  exact ⟨v, Ev.bind (Ev.bind h (ev_eq fun _ => rfl)) (ev_eq fun _ => rfl), hz⟩
theorem drawBetween_ok (l : List Int) (hl : Bytes l) : ∃ v w, Ev (fun k => spec_DrawCountLuckyBetween.f k l) (v, w) ∧ v.size ≤ 20 ∧ w.size ≤ 20 := by
  obtain ⟨v, a, s, h, hz, g1, g2⟩ := ticket_ok l hl 0 0 (by omega) (by omega)
  obtain ⟨x, a1, s1, hx, g3, g4⟩ := one_ok l hl a s 4 (by omega) (by omega)
  unfold spec_DrawCountLuckyBetween.f
  by_cases c : x = true
  · obtain ⟨w, a2, s2, hw, hz2, _, _⟩ := ticket_ok l hl a1 s1 (by omega) (by omega)
    exact ⟨v, w, Ev.bind h (ev_bind hx (ev_pos c (Ev.bind hw (ev_eq fun _ => rfl)))), hz, hz2⟩
  · obtain ⟨w, a2, s2, hw, hz2, _, _⟩ := sure_ok l hl a1 s1 v.size (by omega) (by omega) (by omega)
    by_cases c2 : Op.bytesLess w.toList v.toList = true
    · exact ⟨w, v, Ev.bind h (ev_bind hx (ev_neg c (Ev.bind hw (ev_pos c2 (ev_eq fun _ => rfl))))), by omega, hz⟩
    · exact ⟨v, w, Ev.bind h (ev_bind hx (ev_neg c (Ev.bind hw (ev_neg c2 (ev_eq fun _ => rfl))))), hz, by omega⟩

/-! ### the law -/
theorem eqL (s : ByteArray) : (s.toList = s.toList) = True := eq_self _
theorem j7_ev (l : List Int) (hl : Bytes l) : Ev (fun k => laws_FnTicketsRanked.j7 k l) true := by
  obtain ⟨a, b, hd, ha, hb⟩ := drawBetween_ok l hl
  refine ev_succ ?_
  simp only [laws_FnTicketsRanked.j7]
  refine Ev.bind hd ?_
  rcases between_both a b (by omega) (by omega) with ⟨e1, e2⟩ | ⟨q, x, y, h1, h6, hxy, hy, rfl, rfl, e1, e2⟩
  · exact Ev.bind e1 (Ev.bind e2 (ev_neg (by simp) (ev_pos rfl (ev_neg (by simp) (ev_eq fun _ => rfl)))))
  · have hx : x < 10 ^ (2 * q) := by omega
    have b1 := cnt12 q x h6 (by omega)
    have b2 := cnt12 q y h6 (by omega)
    have c1 := cnt12 q (x + 1) h6 (by omega)
    have c2 := cnt12 q (y + 1) h6 (by omega)
    have hmono := cntL_mono q (m := x + 1) (n := y + 1) (by omega)
    have r1 := (rk_both (mkT (2 * q) x) (by rw [T_size]; omega)).1
    have r2 := (rk_both (mkT (2 * q) y) (by rw [T_size]; omega)).1
    have l1 := (isL_both (mkT (2 * q) x) (by rw [T_size]; omega)).1
    have l2 := (isL_both (mkT (2 * q) y) (by rw [T_size]; omega)).1
    rw [rkG_T q x h1 h6 hx, okTk_T q x h1 h6] at r1
    rw [rkG_T q y h1 h6 hy, okTk_T q y h1 h6] at r2
    rw [lkG_T q x h1 h6 hx, okTk_T q x h1 h6] at l1
    rw [lkG_T q y h1 h6 hy, okTk_T q y h1 h6] at l2
    refine Ev.bind e1 (Ev.bind e2 (ev_neg (by simp) (ev_pos rfl (ev_pos rfl (Ev.bind r1 (Ev.bind r2 (Ev.bind l1 (Ev.bind l2 ?_))))))))
    have w1 : wrap64 (cntL q y - cntL q x) = cntL q y - cntL q x := wrap_of (by omega) (by omega)
    have w2 : wrap64 (cntL q y - cntL q x - 1) = cntL q y - cntL q x - 1 := wrap_of (by omega) (by omega)
    have w3 : wrap64 (cntL q y - cntL q x - 1 + 1) = cntL q y - cntL q x - 1 + 1 := wrap_of (by omega) (by omega)
    have w4 : wrap64 (cntL q y - cntL q x + 1) = cntL q y - cntL q x + 1 := wrap_of (by omega) (by omega)
    have s1 : cntL q (x + 1) = cntL q x + if lky q x = true then 1 else 0 := rfl
    have s2 : cntL q (y + 1) = cntL q y + if lky q y = true then 1 else 0 := rfl
    dsimp only
    rw [w1, w2, w3, w4]
    by_cases d1 : lky q x = true
    · rw [if_pos d1] at s1
      by_cases d2 : lky q y = true
      · rw [if_pos d2] at s2
        exact ev_pos d1 (ev_pos d2 (ev_pos rfl (ev_pos rfl (ev_pos rfl (ev_pos rfl (ev_pos (by omega) (ev_neg (by omega) (ev_eq fun _ => rfl))))))))
      · rw [if_neg d2] at s2
        exact ev_pos d1 (ev_neg d2 (ev_pos rfl (ev_pos rfl (ev_pos rfl (ev_pos rfl (ev_pos (by omega) (ev_neg (by omega) (ev_eq fun _ => rfl))))))))
    · rw [if_neg d1] at s1
      by_cases d2 : lky q y = true
      · rw [if_pos d2] at s2
        exact ev_neg d1 (ev_pos d2 (ev_pos rfl (ev_pos rfl (ev_pos rfl (ev_pos rfl (ev_pos (by omega) (ev_neg (by omega) (ev_eq fun _ => rfl))))))))
      · rw [if_neg d2] at s2
        exact ev_neg d1 (ev_neg d2 (ev_pos rfl (ev_pos rfl (ev_pos rfl (ev_pos rfl (ev_pos (by omega) (ev_neg (by omega) (ev_eq fun _ => rfl))))))))
theorem j6_ev (l : List Int) (hl : Bytes l) (q m : Nat) (h1 : 1 ≤ q) (h6 : q ≤ 6) (hm : m < 10 ^ (2 * q)) {r : ByteArray × Bool} (hr : lstP q m r) : Ev (fun k => laws_FnTicketsRanked.j6 k l (mkT (2 * q) m) r.1 r.2 (cntL q m) (bfG q m r) (m : Int)) true := by
  refine ev_succ ?_
  simp only [laws_FnTicketsRanked.j6]
  rcases hr with ⟨x, g1, g2, g3, rfl⟩ | ⟨_, rfl⟩
  · have hx : x < 10 ^ (2 * q) := by omega
    have b1 := cnt12 q m h6 (by omega)
    have n1 := num_bd (2 * q) m (by omega) hm
    have n2 := num_bd (2 * q) x (by omega) hx
    have r1 := (rk_both (mkT (2 * q) x) (by rw [T_size]; omega)).1
    have m1 := (nm_both (mkT (2 * q) x) (by rw [T_size]; omega)).1
    have l1 := (isL_both (mkT (2 * q) x) (by rw [T_size]; omega)).1
    rw [rkG_T q x h1 h6 hx, okTk_T q x h1 h6] at r1
    rw [nmG_T q x h1 h6 hx, okTk_T q x h1 h6] at m1
    rw [lkG_T q x h1 h6 hx, okTk_T q x h1 h6, g2] at l1
    have hlt := less_T (2 * q) x m hx hm
    rw [decide_eq_true g1] at hlt
    refine ev_pos rfl (Ev.bind r1 (Ev.bind m1 (Ev.bind l1 (ev_pos hlt (ev_pos rfl (ev_pos ?_ (ev_pos rfl (ev_pos ?_ (ev_pos rfl (ev_pos rfl (j7_ev l hl)))))))))))
    · dsimp only; rw [wrap_of (by omega) (by omega)]; exact g3
    · dsimp only
      rw [wrap_of (by omega) (by omega)]
      unfold bfG; rw [if_pos rfl, T_ln _ x hx]
  · exact ev_neg (by simp) (j7_ev l hl)
theorem j5_ev (l : List Int) (hl : Bytes l) (q m : Nat) (h1 : 1 ≤ q) (h6 : q ≤ 6) (hm : m < 10 ^ (2 * q)) {r n : ByteArray × Bool} (hr : lstP q m r) (hn : nxtP q m n) : Ev (fun k => laws_FnTicketsRanked.j5 k l (mkT (2 * q) m) n.1 n.2 r.1 r.2 (cntL q m) (bfG q m r) (bhG q m n) (lky q m) (m : Int)) true := by
  refine ev_succ ?_
  simp only [laws_FnTicketsRanked.j5]
  rcases hn with ⟨x, g1, hx, g2, g3, rfl⟩ | rfl
  · have b1 := cnt12 q m h6 (by omega)
    have n1 := num_bd (2 * q) m (by omega) hm
    have n2 := num_bd (2 * q) x (by omega) hx
    have r1 := (rk_both (mkT (2 * q) x) (by rw [T_size]; omega)).1
    have m1 := (nm_both (mkT (2 * q) x) (by rw [T_size]; omega)).1
    rw [rkG_T q x h1 h6 hx, okTk_T q x h1 h6] at r1
    rw [nmG_T q x h1 h6 hx, okTk_T q x h1 h6] at m1
    have hlt := less_T (2 * q) m x hm hx
    rw [decide_eq_true g1] at hlt
    have hbt : Ev (fun k => impl_CountLuckyBetween.f k (mkT (2 * q) m) (mkT (2 * q) x)) (1, true) := by
      have e1 := (between_in q m x h1 h6 (by omega) hx).1
      have : cntL q (x + 1) - cntL q (m + 1) = 1 := by rw [cntL_hit g2]; omega
      rw [this] at e1
      exact e1
    refine ev_pos rfl (Ev.bind r1 (Ev.bind hbt (Ev.bind m1 ?_)))
    have hbh : wrap64 ((x : Int) - (m : Int)) = bhG q m (mkT (2 * q) x, true) := by
      rw [wrap_of (by omega) (by omega)]; unfold bhG; rw [if_pos rfl, T_ln _ x hx]
    have hs : cntL q (m + 1) = cntL q m + if lky q m = true then 1 else 0 := rfl
    by_cases d : lky q m = true
    · rw [if_pos d] at hs
      refine ev_pos d (ev_pos hlt (ev_pos rfl (ev_pos ?_ (ev_pos rfl (ev_pos rfl (ev_pos rfl (ev_pos hbh (j6_ev l hl q m h1 h6 hm hr))))))))
      dsimp only; rw [wrap_of (by omega) (by omega)]; omega
    · rw [if_neg d] at hs
      refine ev_neg d (ev_pos hlt (ev_pos rfl (ev_pos ?_ (ev_pos rfl (ev_pos rfl (ev_pos rfl (ev_pos hbh (j6_ev l hl q m h1 h6 hm hr))))))))
      dsimp only; omega
  · exact ev_neg (by simp) (j6_ev l hl q m h1 h6 hm hr)
theorem bh_pos {q m : Nat} {n : ByteArray × Bool} (hn : nxtP q m n) : n.2 = decide (bhG q m n > 0) := by
  rcases hn with ⟨x, g1, hx, g2, g3, rfl⟩ | rfl
  · unfold bhG; rw [if_pos rfl, T_ln _ x hx]; exact (decide_eq_true (by omega)).symm
  · unfold bhG; rw [if_neg (by simp)]; rfl
theorem bf_pos {q m : Nat} {r : ByteArray × Bool} (hm : m < 10 ^ (2 * q)) (hr : lstP q m r) : r.2 = decide (bfG q m r > 0) := by
  rcases hr with ⟨x, g1, g2, g3, rfl⟩ | ⟨_, rfl⟩
  · unfold bfG; rw [if_pos rfl, T_ln _ x (by omega)]; exact (decide_eq_true (by omega)).symm
  · unfold bfG; rw [if_neg (by simp)]; rfl
theorem pl_pos {q m : Nat} {r : ByteArray × Bool} (hr : lstP q m r) : r.2 = decide (cntL q m > 0) := by
  rcases hr with ⟨x, g1, g2, g3, rfl⟩ | ⟨h, rfl⟩
  · have := cntL_nonneg q x; exact (decide_eq_true (by omega)).symm
  · rw [h]; rfl
theorem j3_ev (l : List Int) (hl : Bytes l) : Ev (fun k => laws_FnTicketsRanked.j3 k l) true := by
  obtain ⟨s, hd, hs⟩ := drawNext_ok l hl
  have hs6 : s.size ≤ 1000000 := by omega
  have it := isTicket_ev s hs6
  have st := sIsTicket_ev s hs6
  obtain ⟨r1, r2⟩ := rk_both s hs6
  obtain ⟨l1, l2⟩ := isL_both s hs6
  obtain ⟨m1, m2⟩ := nm_both s hs6
  refine ev_succ ?_
  simp only [laws_FnTicketsRanked.j3]
  refine Ev.bind hd ?_
  by_cases c : okTk s = true
  · obtain ⟨q, m, h1, h6, hm, rfl⟩ := tk_form c
    obtain ⟨n, hn, n1, n2, n3⟩ := next_both q m h1 h6 hm
    obtain ⟨r, hr, e1, e2, e3⟩ := last_both q m h1 h6 hm
    obtain ⟨g1, g2⟩ := gaps_both q m h1 h6 hm hr hn e1 n1 e3 n3
    rw [rkG_T q m h1 h6 hm, c] at r1 r2
    rw [lkG_T q m h1 h6 hm, c] at l1 l2
    rw [nmG_T q m h1 h6 hm, c] at m1 m2
    rw [c] at it st
    have j4 : Ev (fun k => laws_FnTicketsRanked.j4 k l (mkT (2 * q) m) n.1 n.2 r.1 r.2 (cntL q m) true (bfG q m r) (bhG q m n) (lky q m) (m : Int) false) true := by
      refine ev_succ ?_
      simp only [laws_FnTicketsRanked.j4]
      refine ev_neg (by decide) (ev_pos trivial (ev_bind (by rw [T_size]; exact ticketOf q m h1 h6 hm) (ev_pos rfl (ev_pos rfl (ev_neg ?_ (ev_neg ?_ (ev_neg ?_ (j5_ev l hl q m h1 h6 hm hr hn))))))))
      · rw [← bh_pos hn]; simp
      · rw [← bf_pos hm hr]; simp
      · rw [← pl_pos hr]; simp
    refine Ev.bind n1 (Ev.bind n2 (Ev.bind e1 (Ev.bind e2 (Ev.bind r1 (Ev.bind r2 (Ev.bind g1 (Ev.bind g2 (Ev.bind l1 (Ev.bind l2 (Ev.bind m1 (Ev.bind m2 ?_)))))))))))
    refine ev_neg (by simp) (ev_pos rfl (ev_neg (by simp) (ev_pos rfl (ev_neg (by simp) (ev_pos rfl (ev_neg (by simp) (ev_pos rfl (ev_pos rfl (ev_neg (by simp) (ev_neg (by simp) (ev_neg (by simp) (ev_pos rfl (Ev.bind it (ev_neg (by simp) (Ev.bind it (Ev.bind st (ev_neg (by simp) (ev_neg (by simp) (ev_neg (by simp) (ev_neg (by simp) ?_))))))))))))))))))))
    by_cases d1 : n.2 = true
    · refine ev_pos d1 (ev_pos rfl ?_)
      by_cases d2 : r.2 = true
      · exact ev_pos d2 j4
      · exact ev_neg d2 j4
    · refine ev_neg d1 ?_
      by_cases d2 : r.2 = true
      · exact ev_pos d2 j4
      · exact ev_neg d2 j4
  · obtain ⟨n1, n2, e1, e2, g1, g2⟩ := none_all s hs6 c
    have c' := c
    rw [Bool.not_eq_true] at c'
    rw [c'] at r1 r2 l1 l2 m1 m2 it st
    refine Ev.bind n1 (Ev.bind n2 (Ev.bind e1 (Ev.bind e2 (Ev.bind r1 (Ev.bind r2 (Ev.bind g1 (Ev.bind g2 (Ev.bind l1 (Ev.bind l2 (Ev.bind m1 (Ev.bind m2 ?_)))))))))))
    refine ev_neg (by simp) (ev_pos rfl (ev_neg (by simp) (ev_pos rfl (ev_neg (by simp) (ev_pos rfl (ev_neg (by simp) (ev_pos rfl (ev_pos rfl (ev_neg (by simp) (ev_neg (by simp) (ev_neg (by simp) (ev_pos rfl (Ev.bind it (ev_neg (by simp) (Ev.bind it (Ev.bind st (ev_neg (by simp) (ev_neg (by simp) (ev_neg (by simp) (ev_neg (by simp) (ev_neg (by simp) (ev_neg (by simp) ?_))))))))))))))))))))))
    refine ev_succ ?_
    simp only [laws_FnTicketsRanked.j4]
    refine ev_neg (by decide) (ev_neg (by decide) (ev_succ ?_))
    simp only [laws_FnTicketsRanked.j5]
    refine ev_neg (by decide) (ev_succ ?_)
    simp only [laws_FnTicketsRanked.j6]
    exact ev_neg (by decide) (j7_ev l hl)
theorem j2f_ev (l : List Int) (hl : Bytes l) (n R : Int) (t : ByteArray) : Ev (fun k => laws_FnTicketsRanked.j2 k l n R t false) true := by
  refine ev_succ ?_
  simp only [laws_FnTicketsRanked.j2]
  exact ev_neg (by decide) (j3_ev l hl)
theorem j2t_ev (l : List Int) (hl : Bytes l) (q m : Nat) (h1 : 1 ≤ q) (h6 : q ≤ 6) (hm : m < 10 ^ (2 * q)) (hk : lky q m = true) : Ev (fun k => laws_FnTicketsRanked.j2 k l ((2 * q : Nat) : Int) (cntL q m) (mkT (2 * q) m) true) true := by
  have r1 := (rk_both (mkT (2 * q) m) (by rw [T_size]; omega)).1
  have l1 := (isL_both (mkT (2 * q) m) (by rw [T_size]; omega)).1
  rw [rkG_T q m h1 h6 hm, okTk_T q m h1 h6] at r1
  rw [lkG_T q m h1 h6 hm, okTk_T q m h1 h6, hk] at l1
  refine ev_succ ?_
  simp only [laws_FnTicketsRanked.j2]
  exact ev_pos trivial (Ev.bind l1 (Ev.bind r1 (ev_pos (by rw [T_size]) (ev_pos rfl (ev_pos rfl (ev_pos rfl (ev_pos rfl (j3_ev l hl))))))))
theorem l0_loop (l : List Int) (q : Nat) (h1 : 1 ≤ q) (h6 : q ≤ 6) (R : Int) (t : ByteArray) (ok : Bool) (h2 : Ev (fun k => laws_FnTicketsRanked.j2 k l ((2 * q : Nat) : Int) R t ok) true) : ∀ d i : Nat, i + d = 9 * q + 1 →
    Ev (fun k => laws_FnTicketsRanked.l0 k l ((2 * q : Nat) : Int) R t ok (sqs q) (sqs q) ((sqs q).length : Int) (i : Int)) true := by
  intro d
  induction d with
  | zero =>
    intro i hi
    refine ev_succ ?_
    simp only [laws_FnTicketsRanked.l0]
    exact ev_neg (by rw [sqs_len]; omega) h2
  | succ d ih =>
    intro i hi
    have hlt : i < 9 * q + 1 := by omega
    have hw : wrap64 (wrap64 (((9 * q + 1 : Nat) : Int) - 1) - (i : Int)) = ((9 * q - i : Nat) : Int) := by
      rw [wrap_of (x := ((9 * q + 1 : Nat) : Int) - 1) (by omega) (by omega), wrap_of (by omega) (by omega)]; omega
    have hsym : W q ((9 * q - i : Nat) : Int) = W q (i : Int) := by
      rw [W_sym q (i : Int)]; congr 1; omega
    refine ev_succ ?_
    simp only [laws_FnTicketsRanked.l0]
    rw [sqs_rd q i hlt, sqs_len, hw, sqs_rd q (9 * q - i) (by omega), hsym, wrap_nat (by omega)]
    have hn := ih (i + 1) (by omega)
    rw [sqs_len] at hn
    exact ev_pos (by omega) (ev_pos (by omega) (ev_pos (by omega) (Ev.bind (luckyOf_in q h1 h6 (i : Int) (by omega)) (Ev.bind (tickets_in q h1 h6 (i : Int) (i : Int) (by omega) (by omega)) (ev_pos (by omega) (ev_pos (by omega) (ev_pos rfl (ev_pos rfl (ev_pos rfl (ev_pos rfl (ev_pos rfl hn)))))))))))
theorem j0_ev (l : List Int) (q : Nat) (h1 : 1 ≤ q) (h6 : q ≤ 6) (R : Int) (t : ByteArray) (ok : Bool) (h2 : Ev (fun k => laws_FnTicketsRanked.j2 k l ((2 * q : Nat) : Int) R t ok) true) : Ev (fun k => laws_FnTicketsRanked.j0 k l ((2 * q : Nat) : Int) R t ok (total q) true (sqs q) false) true := by
  have hw : wrap64 (wrap64 (Int.tdiv (wrap64 (9 * ((2 * q : Nat) : Int))) 2) + 1) = ((9 * q + 1 : Nat) : Int) := by
    rw [wrap_of (x := 9 * ((2 * q : Nat) : Int)) (by omega) (by omega), Int.tdiv_eq_ediv_of_nonneg (by omega), wrap_of (x := 9 * ((2 * q : Nat) : Int) / 2) (by omega) (by omega), wrap_of (by omega) (by omega)]; omega
  have h0 : rd (sqs q) 0 = 1 := by
    have := sqs_rd q 0 (by omega)
    rw [show ((0 : Nat) : Int) = 0 from rfl, W_zero] at this
    exact this
  refine ev_succ ?_
  simp only [laws_FnTicketsRanked.j0]
  rw [hw, h0]
  refine ev_neg (by decide) (ev_pos trivial (ev_pos (by rw [sqs_len]) (Ev.bind (sumE_ev q h1 h6) (ev_pos rfl (ev_pos (by rw [sqs_len]; omega) (ev_pos rfl ?_))))))
  exact l0_loop l q h1 h6 R t ok h2 (9 * q + 1) 0 (by omega)
theorem FnTicketsRanked : laws_FnTicketsRanked.Pure := by
  intro l0 l1 hl0 hb0 hw0 hl1 hb1 hw1
  refine Ev.rounds ?_
  unfold laws_FnTicketsRanked.f laws_big.f
  by_cases hbig : (l0.length : Int) > 1048576
  · rw [if_pos hbig]; exact ev_bind rfl (ev_pos rfl (ev_eq fun _ => rfl))
  rw [if_neg hbig]
  by_cases hb : decide ((l1.length : Int) > wrap64 (1048576 - (l0.length : Int))) = true
  · exact ev_bind rfl (ev_pos hb (ev_eq fun _ => rfl))
  refine ev_bind rfl (ev_neg hb ?_)
  obtain ⟨n, R, hd⟩ := drawRank_ok l0 hw0
  obtain ⟨c1, c2⟩ := count_both n
  obtain ⟨s1, s2⟩ := sums_both n
  refine ev_bind hd ?_
  dsimp only
  by_cases g : okSz n = true
  · have ec : clkG n = (total (n / 2).toNat, true) := by unfold clkG; rw [if_pos g]
    have es : smG n = (sqs (n / 2).toNat, true) := by unfold smG; rw [if_pos g]
    rw [ec] at c1 c2
    rw [es] at s1 s2
    obtain ⟨q, h1, h6, rfl⟩ := okSz_half g
    rw [half_nat] at c1 c2 s1 s2
    have esame := eSame_refl (sqs q) (by rw [sqs_len]; omega)
    rcases of_both q h1 h6 R with ⟨r0, r1, m, hm, hk, hc, e1, e2, _⟩ | ⟨hno, e1, e2⟩
    · refine Ev.bind e1 (Ev.bind e2 (Ev.bind c1 (Ev.bind c2 (Ev.bind s1 (Ev.bind s2 (ev_neg (by simp) (ev_pos rfl (ev_neg (by simp) (ev_pos rfl (ev_neg (by simp) (Ev.bind esame (ev_pos rfl (ev_neg (by simp) (ev_pos rfl (ev_pos (by omega) ?_)))))))))))))))
      rw [decide_eq_true r1, ← hc]
      exact j0_ev l1 q h1 h6 _ _ true (j2t_ev l1 hw1 q m h1 h6 hm hk)
    · refine Ev.bind e1 (Ev.bind e2 (Ev.bind c1 (Ev.bind c2 (Ev.bind s1 (Ev.bind s2 (ev_neg (by simp) (ev_pos rfl (ev_neg (by simp) (ev_pos rfl (ev_neg (by simp) (Ev.bind esame (ev_pos rfl (ev_neg (by simp) (ev_pos rfl ?_))))))))))))))
      have j := j0_ev l1 q h1 h6 R (⟨#[]⟩ : ByteArray) false (j2f_ev l1 hw1 _ R _)
      by_cases h0 : R ≥ 0
      · rw [decide_eq_false (show ¬ R < total q by omega)]
        exact ev_pos h0 j
      · exact ev_neg h0 j
  · have ec : clkG n = (0, false) := by unfold clkG; rw [if_neg g]
    have es : smG n = ([], false) := by unfold smG; rw [if_neg g]
    rw [ec] at c1 c2
    rw [es] at s1 s2
    obtain ⟨e1, e2⟩ := of_none n R g
    refine Ev.bind e1 (Ev.bind e2 (Ev.bind c1 (Ev.bind c2 (Ev.bind s1 (Ev.bind s2 (ev_neg (by simp) (ev_pos rfl (ev_neg (by simp) (ev_pos rfl (ev_neg (by simp) (Ev.bind (eSame_refl [] (by simp)) (ev_pos rfl (ev_neg (by simp) (ev_neg (by simp) ?_))))))))))))))
    refine ev_succ ?_
    simp only [laws_FnTicketsRanked.j0]
    exact ev_neg (by decide) (ev_neg (by decide) (j2f_ev l1 hw1 n R _))

end Go.Proofs.YtlgpjilhjfkmbaaDoor.Pure

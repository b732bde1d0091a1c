/- HousesBalance: program and reference tell the same of every street (lists and numbers alone). -/
import Derived.Laws.Bits64b
import Derived.Test.YtjhmocngcnnfdaaPFnHousesBalancex6
namespace Go.Proofs.Ytjhmocngcnnfdaa.Pure
open Go.RowKit Go.Proofs.Ytjhmocngcnnfdaa.PFnHousesBalance Go.Proofs.YtjhmocngcnnfdaaW.PrintWords Go.Proofs.YtjhmocngcnnfdaaW.PrintLast
set_option linter.unusedVariables false
set_option linter.unusedSimpArgs false

theorem wrap_of {x : Int} (h0 : -9223372036854775808 ≤ x) (h1 : x ≤ 9223372036854775807) : wrap64 x = x := by unfold wrap64; omega
theorem wrap_nat {i : Nat} (h : i < 4611686018427387904) : wrap64 ((i : Int) + 1) = ((i + 1 : Nat) : Int) := by unfold wrap64; omega
theorem ev_eq {α : Type} {g : Nat → Option α} {r : α} (h : ∀ k, g k = some r) : Ev g r := ⟨0, fun k _ => h k⟩
theorem ev_bind {α β : Type} {x : Option α} {f : Nat → α → Option β} {a : α} {r : β} (h : x = some a) (k : Ev (fun n => f n a) r) : Ev (fun n => x.bind (f n)) r := by subst h; exact k
theorem ev_pos {α : Type} {c : Prop} [Decidable c] {g f : Nat → Option α} {r : α} (h : c) (k : Ev g r) : Ev (fun n => if c then g n else f n) r := by simp only [if_pos h]; exact k
theorem ev_neg {α : Type} {c : Prop} [Decidable c] {g f : Nat → Option α} {r : α} (h : ¬ c) (k : Ev f r) : Ev (fun n => if c then g n else f n) r := by simp only [if_neg h]; exact k
theorem ev_from {α : Type} {g : Nat → Option α} {r : α} (K : Nat) (h : ∀ k, K ≤ k → g k = some r) : Ev g r := ⟨K, h⟩

/-! ### bytes of a text -/
theorem size_len (t : ByteArray) : t.data.toList.length = t.size := by rw [Array.length_toList]; rfl
theorem bt_get (t : ByteArray) (i : Nat) (h : i < t.data.toList.length) : bt t (i : Int) = ((t.data.toList[i]).toNat : Int) := by
  unfold bt
  rw [dif_pos (by rw [Int.toNat_natCast]; simpa using h)]
  simp only [Int.toNat_natCast]
  rfl
theorem ev_succ {α : Type} {g : Nat → Option α} {r : α} (h : Ev (fun k => g (k + 1)) r) : Ev g r := by
  obtain ⟨K, hK⟩ := h
  refine ev_from (K + 1) (fun k hk => ?_)
  obtain ⟨k, rfl⟩ : ∃ m, k = m + 1 := ⟨k - 1, by omega⟩
  exact hK k (by omega)
theorem ext_list (s : ByteArray) (a b : Nat) (hb : b ≤ s.size) : (s.extract a b).data.toList = (s.data.toList.take b).drop a := by
  rw [ByteArray.data_extract, Array.toList_extract, List.extract_eq_take_drop]
  rw [List.drop_take]
theorem take_list (s : ByteArray) (i : Nat) (h : i ≤ s.size) : (s.extract 0 i).data.toList = s.data.toList.take i := by rw [ext_list s 0 i h]; rfl
theorem drop_list (s : ByteArray) (i : Nat) : (s.extract i s.size).data.toList = s.data.toList.drop i := by
  rw [ext_list s i s.size (Nat.le_refl _), List.take_of_length_le (by rw [size_len]; exact Nat.le_refl _)]
theorem mk_data (s : ByteArray) : (⟨s.data.toList.toArray⟩ : ByteArray) = s := by cases s; simp
theorem of_list {s : ByteArray} {l : List UInt8} (h : s.data.toList = l) : s = ⟨l.toArray⟩ := by rw [← h, mk_data]
theorem list_of (l : List UInt8) : (⟨l.toArray⟩ : ByteArray).data.toList = l := by simp
theorem mk_size (l : List UInt8) : (⟨l.toArray⟩ : ByteArray).size = l.length := by rw [← size_len, list_of]
theorem mk_append (a b : List UInt8) : (⟨a.toArray⟩ : ByteArray) ++ ⟨b.toArray⟩ = ⟨(a ++ b).toArray⟩ := by
  apply of_list; rw [ByteArray.data_append, Array.toList_append, list_of, list_of]
theorem l1In_eq (n lo hi : Int) : spec_l1In.f n lo hi = some (decide (lo ≤ n ∧ n ≤ hi)) := by
  unfold spec_l1In.f
  by_cases h : n ≥ lo
  · rw [if_pos h]; congr 1; simp; intro _; omega
  · rw [if_neg h]; congr 1; simp; intro; omega
theorem within_eq (n lo hi : Int) : impl_within.f n lo hi = some (decide (lo ≤ n ∧ n ≤ hi)) := by
  unfold impl_within.f
  by_cases h : lo ≤ n
  · rw [if_pos h]; congr 1; simp; intro _; omega
  · rw [if_neg h]; congr 1; simp; intro; omega

/-! ### squares that are sums 1 + .. + n; squares that are sums of two squares side by side -/
/-- h*h is the sum of 1 .. n -/
def Sq (h n : Int) : Prop := 0 < h ∧ 0 < n ∧ 2 * (h * h) = n * n + n
theorem sq_up {h n : Int} (e : Sq h n) : Sq (3 * h + 2 * n + 1) (4 * h + 3 * n + 1) := by
  obtain ⟨a, b, e⟩ := e
  exact ⟨by omega, by omega, by grind⟩
theorem sq_down {h n : Int} (e : Sq h n) (hn : 8 ≤ n) : Sq (3 * h - 2 * n - 1) (3 * n - 4 * h + 1) := by
  obtain ⟨a, b, e⟩ := e
  have h2 : 8 * n ≤ n * n := Int.mul_le_mul_of_nonneg_right hn (by omega)
  refine ⟨?_, ?_, by grind⟩
  · by_cases c : 2 * n + 2 ≤ 3 * h
    · omega
    · exfalso
      have h1 : (3 * h) * (3 * h) ≤ (2 * n + 1) * (2 * n + 1) := Int.mul_le_mul (by omega) (by omega) (by omega) (by omega)
      grind
  · by_cases c : 4 * h ≤ 3 * n
    · omega
    · exfalso
      have h1 : (3 * n + 1) * (3 * n + 1) ≤ (4 * h) * (4 * h) := Int.mul_le_mul (by omega) (by omega) (by omega) (by omega)
      grind
theorem sq_down_lt {h n : Int} (e : Sq h n) : 3 * n - 4 * h + 1 < n := by
  obtain ⟨a, b, e⟩ := e
  by_cases c : 2 * n + 1 < 4 * h
  · omega
  · exfalso
    have h1 : (2 * h) * (2 * h) ≤ n * n := Int.mul_le_mul (by omega) (by omega) (by omega) (by omega)
    have h2 : (2 * h) * (2 * h) = 4 * (h * h) := by grind
    have h3 : 0 < n * n := Int.mul_pos b b
    omega
theorem sq_small {h n : Int} (e : Sq h n) (hn : n < 8) : n = 1 ∧ h = 1 := by
  obtain ⟨a, b, e⟩ := e
  have hb : h < 8 := by
    by_cases c : h < 8
    · exact c
    · exfalso
      have h1 : 8 * 8 ≤ h * h := Int.mul_le_mul (by omega) (by omega) (by omega) (by omega)
      have h2 : n * n ≤ 8 * 8 := Int.mul_le_mul (by omega) (by omega) (by omega) (by omega)
      omega
  have h1 : h = 1 ∨ h = 2 ∨ h = 3 ∨ h = 4 ∨ h = 5 ∨ h = 6 ∨ h = 7 := by omega
  have h2 : n = 1 ∨ n = 2 ∨ n = 3 ∨ n = 4 ∨ n = 5 ∨ n = 6 ∨ n = 7 := by omega
  rcases h1 with rfl | rfl | rfl | rfl | rfl | rfl | rfl <;> rcases h2 with rfl | rfl | rfl | rfl | rfl | rfl | rfl <;> omega
theorem sq_mono {h n h' n' : Int} (e : Sq h n) (e' : Sq h' n') (hl : n ≤ n') : h ≤ h' := by
  obtain ⟨a, b, e⟩ := e
  obtain ⟨a', b', e'⟩ := e'
  by_cases c : h ≤ h'
  · exact c
  · exfalso
    have h1 : n * n ≤ n' * n' := Int.mul_le_mul hl hl (by omega) (by omega)
    have h2 : (h' + 1) * (h' + 1) ≤ h * h := Int.mul_le_mul (by omega) (by omega) (by omega) (by omega)
    grind
theorem sq_mono_h {h n h' n' : Int} (e : Sq h n) (e' : Sq h' n') (hl : h ≤ h') : n ≤ n' := by
  by_cases c : n ≤ n'
  · exact c
  · exfalso
    have := sq_mono e' e (by omega)
    have hh : h = h' := by omega
    subst hh
    obtain ⟨a, b, e⟩ := e
    obtain ⟨a', b', e'⟩ := e'
    have h2 : n' * n' ≤ n * n := Int.mul_le_mul (by omega) (by omega) (by omega) (by omega)
    omega
/-- between one and the next there is none -/
theorem sq_gap : ∀ (k : Nat) (H L h n : Int), L.toNat < k → Sq H L → Sq h n → L < n → 4 * H + 3 * L + 1 ≤ n := by
  intro k
  induction k with
  | zero => intro H L h n hk; omega
  | succ k ih =>
    intro H L h n hk e e' hl
    by_cases c : 4 * H + 3 * L + 1 ≤ n
    · exact c
    exfalso
    have hL := e.2.1
    have hn8 : 8 ≤ n := by
      by_cases c2 : 8 ≤ n
      · exact c2
      · have := sq_small e' (by omega); omega
    have d := sq_down e' hn8
    have dl := sq_down_lt e'
    by_cases c3 : L < 8
    · have := sq_small e c3
      have := d.2.1
      -- n < 8
      omega
    · have d2 := sq_down e (by omega)
      have dl2 := sq_down_lt e
      by_cases c4 : 3 * n - 4 * h + 1 ≤ 3 * L - 4 * H + 1
      · have m := sq_mono d d2 c4
        omega
      · by_cases c5 : 3 * n - 4 * h + 1 < L
        · have := ih _ _ _ _ (by omega) d2 d (by omega)
          omega
        · have m := sq_mono e d (by omega)
          omega
/-- n*n is the sum of k*k and (k-1)*(k-1) -/
def Od (k n : Int) : Prop := 0 < k ∧ 0 < n ∧ k * k + (k - 1) * (k - 1) = n * n
theorem od_up {k n : Int} (e : Od k n) : Od (3 * k + 2 * n - 1) (4 * k + 3 * n - 2) := by
  obtain ⟨a, b, e⟩ := e
  exact ⟨by omega, by omega, by grind⟩
theorem od_down {k n : Int} (e : Od k n) (hn : 2 ≤ n) : Od (3 * k - 2 * n - 1) (3 * n - 4 * k + 2) := by
  obtain ⟨a, b, e⟩ := e
  have hn5 : 5 ≤ n := by
    by_cases c : 5 ≤ n
    · exact c
    · exfalso
      have hk : k < 5 := by
        by_cases c2 : k < 5
        · exact c2
        · exfalso
          have h1 : 5 * 5 ≤ k * k := Int.mul_le_mul (by omega) (by omega) (by omega) (by omega)
          have h2 : n * n ≤ 5 * 5 := Int.mul_le_mul (by omega) (by omega) (by omega) (by omega)
          have h3 : 0 ≤ (k - 1) * (k - 1) := Int.mul_nonneg (by omega) (by omega)
          have h4 : 4 * 4 ≤ (k - 1) * (k - 1) := Int.mul_le_mul (by omega) (by omega) (by omega) (by omega)
          omega
      have h1 : k = 1 ∨ k = 2 ∨ k = 3 ∨ k = 4 := by omega
      have h2 : n = 2 ∨ n = 3 ∨ n = 4 := by omega
      rcases h1 with rfl | rfl | rfl | rfl <;> rcases h2 with rfl | rfl | rfl <;> omega
  have h5 : 5 * n ≤ n * n := Int.mul_le_mul_of_nonneg_right hn5 (by omega)
  refine ⟨?_, ?_, by grind⟩
  · by_cases c : 2 * n + 2 ≤ 3 * k
    · omega
    · exfalso
      have h1 : (6 * k - 3) * (6 * k - 3) ≤ (4 * n - 1) * (4 * n - 1) := Int.mul_le_mul (by omega) (by omega) (by omega) (by omega)
      have h2 : (6 * k - 3) * (6 * k - 3) = 18 * (n * n) - 9 := by grind
      have h3 : (4 * n - 1) * (4 * n - 1) = 16 * (n * n) - 8 * n + 1 := by grind
      omega
  · by_cases c : 4 * k ≤ 3 * n + 1
    · omega
    · exfalso
      have h1 : (3 * n) * (3 * n) ≤ (4 * k - 2) * (4 * k - 2) := Int.mul_le_mul (by omega) (by omega) (by omega) (by omega)
      grind
theorem od_down_lt {k n : Int} (e : Od k n) (hn : 2 ≤ n) : 3 * n - 4 * k + 2 < n := by
  obtain ⟨a, b, e⟩ := e
  by_cases c : 2 * n + 2 < 4 * k
  · omega
  · exfalso
    have h1 : (2 * k - 1) * (2 * k - 1) ≤ n * n := Int.mul_le_mul (by omega) (by omega) (by omega) (by omega)
    have h2 : (2 * k - 1) * (2 * k - 1) = 2 * (n * n) - 1 := by grind
    have h3 : 2 * 2 ≤ n * n := Int.mul_le_mul hn hn (by omega) (by omega)
    omega
theorem od_one {k : Int} (e : Od k 1) : k = 1 := by
  obtain ⟨a, b, e⟩ := e
  by_cases c : k = 1
  · exact c
  · exfalso
    have h1 : 2 * 2 ≤ k * k := Int.mul_le_mul (by omega) (by omega) (by omega) (by omega)
    have h3 : 0 ≤ (k - 1) * (k - 1) := Int.mul_nonneg (by omega) (by omega)
    omega
theorem od_mono {k n k' n' : Int} (e : Od k n) (e' : Od k' n') (hl : n ≤ n') : k ≤ k' := by
  obtain ⟨a, b, e⟩ := e
  obtain ⟨a', b', e'⟩ := e'
  by_cases c : k ≤ k'
  · exact c
  · exfalso
    have h1 : n * n ≤ n' * n' := Int.mul_le_mul hl hl (by omega) (by omega)
    have h2 : (k' + 1) * (k' + 1) ≤ k * k := Int.mul_le_mul (by omega) (by omega) (by omega) (by omega)
    have h3 : k' * k' ≤ (k - 1) * (k - 1) := Int.mul_le_mul (by omega) (by omega) (by omega) (by omega)
    grind
theorem od_gap : ∀ (j : Nat) (K L k n : Int), L.toNat < j → Od K L → Od k n → L < n → 4 * K + 3 * L - 2 ≤ n := by
  intro j
  induction j with
  | zero => intro K L k n hk; omega
  | succ j ih =>
    intro K L k n hk e e' hl
    by_cases c : 4 * K + 3 * L - 2 ≤ n
    · exact c
    exfalso
    have hL := e.2.1
    have d := od_down e' (by omega)
    have dl := od_down_lt e' (by omega)
    by_cases c3 : L < 2
    · have : L = 1 := by omega
      subst this
      have := od_one e
      have := d.1
      have := d.2.1
      omega
    · have d2 := od_down e (by omega)
      have dl2 := od_down_lt e (by omega)
      by_cases c4 : 3 * n - 4 * k + 2 ≤ 3 * L - 4 * K + 2
      · have m := od_mono d d2 c4
        omega
      · by_cases c5 : 3 * n - 4 * k + 2 < L
        · have := ih _ _ _ _ (by omega) d2 d (by omega)
          omega
        · have m := od_mono e d (by omega)
          omega

/-! ### sums, streets -/
def tri (n : Int) : Int := n * (n + 1) / 2
theorem tri_two (n : Int) : 2 * tri n = n * (n + 1) := by
  unfold tri
  have : n * (n + 1) % 2 = 0 := by
    rw [Int.mul_emod]
    have : n % 2 = 0 ∨ n % 2 = 1 := by omega
    rcases this with h | h
    · rw [h]; simp
    · have h2 : (n + 1) % 2 = 0 := by omega
      rw [h2]; simp
  omega
theorem tri_step (n : Int) : tri (n + 1) = tri n + (n + 1) := by
  have h1 := tri_two n
  have h2 := tri_two (n + 1)
  have : (n + 1) * (n + 1 + 1) = n * (n + 1) + 2 * (n + 1) := by grind
  omega
theorem tri_zero : tri 0 = 0 := rfl
theorem mul_big {a b m n : Int} (h0 : 0 ≤ a) (h1 : a ≤ m) (h2 : 0 ≤ b) (h3 : b ≤ n) : 0 ≤ a * b ∧ a * b ≤ m * n :=
  ⟨Int.mul_nonneg h0 h2, Int.mul_le_mul h1 h3 h2 (by omega)⟩
theorem tri_bound {n : Int} (h0 : 0 ≤ n) (h : n ≤ 2000000) : 0 ≤ tri n ∧ tri n ≤ 2000001000000 := by
  have h1 := tri_two n
  have h2 := mul_big h0 h (show (0 : Int) ≤ n + 1 by omega) (show n + 1 ≤ 2000001 by omega)
  omega
theorem tri_mono {m n : Int} (h0 : 0 ≤ m) (h : m ≤ n) : tri m ≤ tri n := by
  have h1 := tri_two m
  have h2 := tri_two n
  have : m * (m + 1) ≤ n * (n + 1) := Int.mul_le_mul h (by omega) (by omega) (by omega)
  omega
theorem tri_lt {m n : Int} (h0 : 0 ≤ m) (h : m < n) : tri m < tri n := by
  have := tri_mono (m := m + 1) (n := n) (by omega) (by omega)
  rw [tri_step] at this
  omega
theorem upTo_eq {n : Int} (h0 : 0 ≤ n) (h : n ≤ 2000000) : impl_upTo.f n = some (tri n) := by
  unfold impl_upTo.f
  have h2 := mul_big h0 h (show (0 : Int) ≤ n + 1 by omega) (show n + 1 ≤ 2000001 by omega)
  have h3 := tri_bound h0 h
  rw [wrap_of (x := n + 1) (by omega) (by omega), wrap_of (x := n * (n + 1)) (by omega) (by omega), Int.tdiv_eq_ediv_of_nonneg h2.1]
  congr 1
  exact wrap_of (x := n * (n + 1) / 2) (by unfold tri at h3; omega) (by unfold tri at h3; omega)
def St (a b : Int) : Prop := 1 ≤ a ∧ a ≤ b ∧ b ≤ 1000000
instance (a b : Int) : Decidable (St a b) := inferInstanceAs (Decidable (_ ∧ _ ∧ _))
theorem isHouse_eq (n : Int) : impl_isHouse.f n = some (decide (1 ≤ n ∧ n ≤ 1000000)) := by
  unfold impl_isHouse.f; rw [within_eq]; rfl
theorem isStreet_eq (a b : Int) : impl_isStreet.f a b = some (decide (St a b)) := by
  unfold impl_isStreet.f
  rw [within_eq, isHouse_eq]
  simp only [Option.bind_some]
  unfold St
  by_cases h : 1 ≤ a ∧ a ≤ b
  · rw [if_pos (by simpa using h)]; exact congrArg some (decide_eq_decide.mpr ⟨fun x => ⟨h.1, h.2, x.2⟩, fun x => ⟨by omega, x.2.2⟩⟩)
  · rw [if_neg (by simpa using h)]; exact congrArg some (decide_eq_false (fun x => h ⟨x.1, x.2.1⟩)).symm
theorem hoMost_eq (n : Int) : spec_hoMost.f n = some (decide (1 ≤ n ∧ n ≤ 1000000)) := by
  unfold spec_hoMost.f; rw [l1In_eq]; rfl
/-- the sum of the numbers from a to b (0 if none) -/
theorem hoSum_eq {a b : Int} (h0 : 1 ≤ a) (h1 : a ≤ b + 1) (h : b ≤ 1000000) : spec_hoSum.f a b = some (tri b - tri (a - 1)) := by
  unfold spec_hoSum.f
  by_cases c : b < a
  · rw [if_pos c]
    have : b = a - 1 := by omega
    subst this
    congr 1; omega
  · rw [if_neg c]
    have t1 := tri_two b
    have t2 := tri_two (a - 1)
    have e : (a + b) * (b - a + 1) = b * (b + 1) - (a - 1) * (a - 1 + 1) := by grind
    have h2 := mul_big (show (0 : Int) ≤ a + b by omega) (show a + b ≤ 2000000 by omega) (show (0 : Int) ≤ b - a + 1 by omega) (show b - a + 1 ≤ 1000000 by omega)
    rw [wrap_of (x := a + b) (by omega) (by omega), wrap_of (x := b - a) (by omega) (by omega), wrap_of (x := b - a + 1) (by omega) (by omega), wrap_of (x := (a + b) * (b - a + 1)) (by omega) (by omega), Int.tdiv_eq_ediv_of_nonneg h2.1]
    congr 1
    rw [wrap_of (by omega) (by omega)]
    omega
/-- the sum of a street in steps -/
def sumH (a b s : Int) : Int := ((b - a) / s + 1) * a + s * tri ((b - a) / s)
theorem div_bound {x s : Int} (h0 : 0 ≤ x) (hs : 1 ≤ s) : 0 ≤ x / s ∧ x / s ≤ x ∧ s * (x / s) ≤ x := by
  refine ⟨Int.ediv_nonneg h0 (by omega), ?_, Int.mul_ediv_self_le (by omega)⟩
  exact Int.ediv_le_self _ h0
theorem sumH_bound {a b s : Int} (h : St a b) (hs : 1 ≤ s) : 0 ≤ s * tri ((b - a) / s) ∧ s * tri ((b - a) / s) ≤ 1000001000000 ∧ 0 ≤ ((b - a) / s + 1) * a ∧ ((b - a) / s + 1) * a ≤ 1000001000000 := by
  obtain ⟨h1, h2, h3⟩ := h
  obtain ⟨d0, d1, d2⟩ := div_bound (x := b - a) (s := s) (by omega) hs
  generalize (b - a) / s = m at *
  have t := tri_two m
  have p1 := mul_big (show (0 : Int) ≤ s * m by exact Int.mul_nonneg (by omega) d0) (show s * m ≤ 1000000 by omega) (show (0 : Int) ≤ m + 1 by omega) (show m + 1 ≤ 1000001 by omega)
  have e : 2 * (s * tri m) = s * m * (m + 1) := by grind
  have p2 := mul_big (show (0 : Int) ≤ m + 1 by omega) (show m + 1 ≤ 1000001 by omega) (show (0 : Int) ≤ a by omega) (show a ≤ 1000000 by omega)
  refine ⟨by omega, by omega, p2.1, by omega⟩
def sumO (a b s : Int) : Int × Bool := if St a b ∧ 1 ≤ s ∧ s ≤ 1000000 then (sumH a b s, true) else (0, false)
theorem implSum_eq (a b s : Int) : impl_SumOfHouses.f a b s = some (sumO a b s) := by
  unfold impl_SumOfHouses.f sumO
  rw [isStreet_eq, isHouse_eq]
  simp only [Option.bind_some]
  by_cases h : St a b
  · rw [if_pos (by simpa using h)]
    by_cases hs : 1 ≤ s ∧ s ≤ 1000000
    · rw [if_pos (by simpa using hs), if_neg (show ¬ s = 0 by omega), if_pos (show St a b ∧ 1 ≤ s ∧ s ≤ 1000000 from ⟨h, hs⟩)]
      obtain ⟨h1, h2, h3⟩ := id h
      obtain ⟨d0, d1, d2⟩ := div_bound (x := b - a) (s := s) (by omega) hs.1
      obtain ⟨b1, b2, b3, b4⟩ := sumH_bound h hs.1
      rw [wrap_of (x := b - a) (by omega) (by omega), Int.tdiv_eq_ediv_of_nonneg (show 0 ≤ b - a by omega), wrap_of (x := (b - a) / s) (by omega) (by omega), wrap_of (x := (b - a) / s + 1) (by omega) (by omega), show (b - a) / s + 1 - 1 = (b - a) / s by omega, wrap_of (x := (b - a) / s) (by omega) (by omega), upTo_eq d0 (by omega)]
      simp only [Option.bind_some]
      rw [wrap_of (x := ((b - a) / s + 1) * a) (by omega) (by omega), wrap_of (x := s * tri ((b - a) / s)) (by omega) (by omega), wrap_of (by omega) (by omega)]
      rfl
    · rw [if_neg (by simpa using hs), if_neg (fun x => hs x.2)]
  · rw [if_neg (by simpa using h), if_neg (fun x => h x.1)]
theorem sumH_one (a b : Int) : sumH a b 1 = tri b - tri (a - 1) := by
  unfold sumH
  rw [Int.ediv_one, Int.one_mul]
  have t1 := tri_two b
  have t2 := tri_two (a - 1)
  have t3 := tri_two (b - a)
  have : 2 * ((b - a + 1) * a) + (b - a) * (b - a + 1) = b * (b + 1) - (a - 1) * (a - 1 + 1) := by grind
  omega

theorem hoStreet_eq (a b : Int) : spec_hoStreet.f a b = some (decide (St a b)) := by
  unfold spec_hoStreet.f
  rw [l1In_eq, l1In_eq]
  simp only [Option.bind_some]
  unfold St
  by_cases h : 1 ≤ b ∧ b ≤ 1000000
  · rw [if_pos (by simpa using h)]; exact congrArg some (decide_eq_decide.mpr ⟨fun x => ⟨x.1, x.2, h.2⟩, fun x => ⟨x.1, x.2.1⟩⟩)
  · rw [if_neg (by simpa using h)]; exact congrArg some (decide_eq_false (fun x => h ⟨by omega, x.2.2⟩)).symm
theorem specSum_eq (a b s : Int) : spec_SumOfHouses.f a b s = some (sumO a b s) := by
  unfold spec_SumOfHouses.f sumO
  rw [hoStreet_eq, hoMost_eq]
  simp only [Option.bind_some]
  by_cases h : St a b
  · rw [if_pos (by simpa using h)]
    by_cases hs : 1 ≤ s ∧ s ≤ 1000000
    · rw [if_pos (by simpa using hs), if_neg (show ¬ s = 0 by omega), if_pos (show St a b ∧ 1 ≤ s ∧ s ≤ 1000000 from ⟨h, hs⟩)]
      obtain ⟨h1, h2, h3⟩ := id h
      obtain ⟨d0, d1, d2⟩ := div_bound (x := b - a) (s := s) (by omega) hs.1
      obtain ⟨b1, b2, b3, b4⟩ := sumH_bound h hs.1
      have hm := mul_big d0 (show (b - a) / s ≤ 1000000 by omega) (show (0 : Int) ≤ (b - a) / s + 1 by omega) (show (b - a) / s + 1 ≤ 1000001 by omega)
      have ht := tri_bound d0 (show (b - a) / s ≤ 2000000 by omega)
      have et : (b - a) / s * ((b - a) / s + 1) / 2 = tri ((b - a) / s) := rfl
      rw [wrap_of (x := b - a) (by omega) (by omega), Int.tdiv_eq_ediv_of_nonneg (show 0 ≤ b - a by omega), wrap_of (x := (b - a) / s) (by omega) (by omega), wrap_of (x := (b - a) / s + 1) (by omega) (by omega), wrap_of (x := (b - a) / s * ((b - a) / s + 1)) (by omega) (by omega), Int.tdiv_eq_ediv_of_nonneg hm.1, et, wrap_of (x := tri ((b - a) / s)) (by omega) (by omega)]
      rw [wrap_of (x := ((b - a) / s + 1) * a) (by omega) (by omega), wrap_of (x := s * tri ((b - a) / s)) (by omega) (by omega), wrap_of (by omega) (by omega)]
      rfl
    · rw [if_neg (by simpa using hs), if_neg (fun x => hs x.2)]
  · rw [if_neg (by simpa using h), if_neg (fun x => h x.1)]
/-! ### roots -/
theorem sq_bound {m : Int} (h0 : 0 ≤ m) (h : m ≤ 3000000000) : 0 ≤ m * m ∧ m * m ≤ 9000000000000000000 := by
  have := mul_big h0 h h0 h
  omega
theorem implRoot_loop (n : Int) : ∀ (d : Nat) (lo hi : Int), (hi - lo).toNat = d → 0 ≤ lo → lo ≤ hi → hi ≤ 2000000000 → lo * lo ≤ n → n < (hi + 1) * (hi + 1) →
    ∃ r, Ev (fun k => impl_root.l0 k n lo hi) r ∧ lo ≤ r ∧ r ≤ hi ∧ r * r ≤ n ∧ n < (r + 1) * (r + 1) := by
  intro d
  induction d using Nat.strongRecOn with
  | _ d ih =>
    intro lo hi hd h0 hle hb h1 h2
    by_cases c : lo < hi
    · have hm : lo < (lo + hi + 1) / 2 ∧ (lo + hi + 1) / 2 ≤ hi := by omega
      have e : wrap64 (Int.tdiv (wrap64 (wrap64 (lo + hi) + 1)) 2) = (lo + hi + 1) / 2 := by
        rw [wrap_of (x := lo + hi) (by omega) (by omega), wrap_of (x := lo + hi + 1) (by omega) (by omega), Int.tdiv_eq_ediv_of_nonneg (by omega)]
        exact wrap_of (by omega) (by omega)
      generalize hmid : (lo + hi + 1) / 2 = m at *
      have sb := sq_bound (m := m) (by omega) (by omega)
      by_cases c2 : m * m ≤ n
      · obtain ⟨r, hr, g⟩ := ih (hi - m).toNat (by omega) m hi rfl (by omega) hm.2 hb c2 h2
        refine ⟨r, ev_succ ?_, by omega, g.2⟩
        simp only [impl_root.l0]
        rw [e, wrap_of (x := m * m) (by omega) (by omega)]
        exact ev_pos c (ev_pos c2 hr)
      · obtain ⟨r, hr, g⟩ := ih (m - 1 - lo).toNat (by omega) lo (m - 1) rfl h0 (by omega) (by omega) h1 (by rw [show m - 1 + 1 = m by omega]; omega)
        refine ⟨r, ev_succ ?_, g.1, by omega, g.2.2⟩
        simp only [impl_root.l0]
        rw [e, wrap_of (x := m * m) (by omega) (by omega), wrap_of (x := m - 1) (by omega) (by omega)]
        exact ev_pos c (ev_neg c2 hr)
    · have : lo = hi := by omega
      subst this
      refine ⟨lo, ev_succ ?_, by omega, by omega, h1, h2⟩
      simp only [impl_root.l0]
      exact ev_neg c (ev_eq fun _ => rfl)
theorem specRoot_loop (n : Int) : ∀ (d : Nat) (lo hi : Int), (hi - lo).toNat = d → 0 ≤ lo → lo ≤ hi → hi ≤ 2000000000 → lo * lo ≤ n → n < (hi + 1) * (hi + 1) →
    ∃ r, Ev (fun k => spec_hoRoot.l0 k n lo hi) r ∧ lo ≤ r ∧ r ≤ hi ∧ r * r ≤ n ∧ n < (r + 1) * (r + 1) := by
  intro d
  induction d using Nat.strongRecOn with
  | _ d ih =>
    intro lo hi hd h0 hle hb h1 h2
    by_cases c : lo < hi
    · have hm : lo < (lo + hi + 1) / 2 ∧ (lo + hi + 1) / 2 ≤ hi := by omega
      have e : wrap64 (Int.tdiv (wrap64 (wrap64 (lo + hi) + 1)) 2) = (lo + hi + 1) / 2 := by
        rw [wrap_of (x := lo + hi) (by omega) (by omega), wrap_of (x := lo + hi + 1) (by omega) (by omega), Int.tdiv_eq_ediv_of_nonneg (by omega)]
        exact wrap_of (by omega) (by omega)
      generalize hmid : (lo + hi + 1) / 2 = m at *
      have sb := sq_bound (m := m) (by omega) (by omega)
      by_cases c2 : m * m ≤ n
      · obtain ⟨r, hr, g⟩ := ih (hi - m).toNat (by omega) m hi rfl (by omega) hm.2 hb c2 h2
        refine ⟨r, ev_succ ?_, by omega, g.2⟩
        simp only [spec_hoRoot.l0]
        rw [e, wrap_of (x := m * m) (by omega) (by omega)]
        exact ev_pos c (ev_pos c2 hr)
      · obtain ⟨r, hr, g⟩ := ih (m - 1 - lo).toNat (by omega) lo (m - 1) rfl h0 (by omega) (by omega) h1 (by rw [show m - 1 + 1 = m by omega]; omega)
        refine ⟨r, ev_succ ?_, g.1, by omega, g.2.2⟩
        simp only [spec_hoRoot.l0]
        rw [e, wrap_of (x := m * m) (by omega) (by omega), wrap_of (x := m - 1) (by omega) (by omega)]
        exact ev_pos c (ev_neg c2 hr)
    · have : lo = hi := by omega
      subst this
      refine ⟨lo, ev_succ ?_, by omega, by omega, h1, h2⟩
      simp only [spec_hoRoot.l0]
      exact ev_neg c (ev_eq fun _ => rfl)
theorem root_le {a b n : Int} (ha : 0 ≤ a) (hb : 0 ≤ b) (h1 : a * a ≤ n) (h2 : n < (b + 1) * (b + 1)) : a ≤ b := by
  by_cases c : a ≤ b
  · exact c
  · have : (b + 1) * (b + 1) ≤ a * a := Int.mul_le_mul (by omega) (by omega) (by omega) (by omega)
    omega
theorem roots (n : Int) (h0 : 0 ≤ n) (h : n ≤ 8000000000000) : ∃ r, Ev (fun k => impl_root.f k n) r ∧ Ev (fun k => spec_hoRoot.f k n) r ∧ 0 ≤ r ∧ r * r ≤ n ∧ n < (r + 1) * (r + 1) := by
  obtain ⟨r, h1, h2, h3, h4, h5⟩ := implRoot_loop n _ 0 2000000000 rfl (by omega) (by omega) (by omega) (by omega) (by omega)
  obtain ⟨s, g1, g2, g3, g4, g5⟩ := specRoot_loop n _ 0 3000000 rfl (by omega) (by omega) (by omega) (by omega) (by omega)
  have e1 := root_le h2 g2 h4 g5
  have e2 := root_le g2 h2 g4 h5
  have : r = s := by omega
  subst this
  exact ⟨r, h1, g1, h2, h4, h5⟩
theorem root_of_sq {r h n : Int} (hr : 0 ≤ r) (hh : 0 ≤ h) (h1 : r * r ≤ n) (h2 : n < (r + 1) * (r + 1)) (e : h * h = n) : r = h := by
  have a := root_le hr hh h1 (show n < (h + 1) * (h + 1) by have : (h + 1) * (h + 1) = h * h + 2 * h + 1 := by grind
                                                            omega)
  have b := root_le hh hr (show h * h ≤ n by omega) h2
  omega

/-! ### balanced houses, halves -/
theorem balImpl (a b : Int) : ∃ o, Ev (fun k => impl_BalancedHouse.f k a b) o ∧ Ev (fun k => spec_BalancedHouse.f k a b) o ∧
    (o = (0, false) ∨ ∃ h, o = (h, true) ∧ St a b ∧ a ≤ h ∧ h ≤ b ∧ h * h = tri b + tri (a - 1)) ∧
    (∀ h, St a b → 0 ≤ h → h * h = tri b + tri (a - 1) → o = (h, true)) := by
  by_cases hst : St a b
  · obtain ⟨h1, h2, h3⟩ := id hst
    have tb := tri_bound (n := b) (by omega) (by omega)
    have ta := tri_bound (n := a - 1) (by omega) (by omega)
    have tb1 : 1 ≤ tri b := by have := tri_mono (m := 1) (n := b) (by omega) (by omega); have e : tri 1 = 1 := rfl; omega
    obtain ⟨r, r1, r2, r3, r4, r5⟩ := roots (tri b + tri (a - 1)) (by omega) (by omega)
    have hrb : r ≤ 3000000 := by
      have : 3000000 * 3000000 ≤ r * r ∨ r ≤ 3000000 := by
        by_cases c : r ≤ 3000000
        · exact .inr c
        · exact .inl (Int.mul_le_mul (by omega) (by omega) (by omega) (by omega))
      omega
    have rb := sq_bound (m := r) r3 (by omega)
    have hs1 : spec_hoSum.f 1 b = some (tri b) := by
      have h := hoSum_eq (a := 1) (b := b) (by omega) (by omega) h3
      have e : tri (1 - 1) = 0 := rfl
      rw [h, e]; congr 1; omega
    have hs2 : spec_hoSum.f 1 (a - 1) = some (tri (a - 1)) := by
      have h := hoSum_eq (a := 1) (b := a - 1) (by omega) (by omega) (by omega)
      have e : tri (1 - 1) = 0 := rfl
      rw [h, e]; congr 1; omega
    have hin : r * r = tri b + tri (a - 1) → a ≤ r ∧ r ≤ b := by
      intro e
      have t1 := tri_two b
      have t2 := tri_two (a - 1)
      have sb := tri_mono (m := a - 1) (n := b - 1) (by omega) (by omega)
      have sb2 : tri b = tri (b - 1) + b := by have := tri_step (b - 1); rw [show b - 1 + 1 = b by omega] at this; exact this
      have t3 := tri_two (b - 1)
      have sa2 : tri a = tri (a - 1) + a := by have := tri_step (a - 1); rw [show a - 1 + 1 = a by omega] at this; exact this
      have sab := tri_mono (m := a) (n := b) (by omega) h2
      have q1 : b * (b + 1) = b * b + b := by grind
      have q2 : (b - 1) * (b - 1 + 1) = b * b - b := by grind
      have q3 : (a - 1) * (a - 1 + 1) = a * a - a := by grind
      constructor
      · refine root_le (n := a * a) (b := r) (by omega) r3 (by omega) (by omega)
      · refine root_le (n := b * b) r3 (by omega) (by omega) ?_
        have : (b + 1) * (b + 1) = b * b + 2 * b + 1 := by grind
        omega
    by_cases c : r * r = tri b + tri (a - 1)
    · obtain ⟨i1, i2⟩ := hin c
      refine ⟨(r, true), ?_, ?_, .inr ⟨r, rfl, hst, i1, i2, c⟩, fun h _ h0 e => ?_⟩
      · unfold impl_BalancedHouse.f
        rw [isStreet_eq]
        simp only [Option.bind_some]
        rw [wrap_of (x := a - 1) (by omega) (by omega), upTo_eq (n := b) (by omega) (by omega), upTo_eq (n := a - 1) (by omega) (by omega)]
        simp only [Option.bind_some]
        rw [wrap_of (x := tri b + tri (a - 1)) (by omega) (by omega)]
        refine ev_pos (by simpa using hst) (Ev.bind r1 ?_)
        rw [wrap_of (x := r * r) (by omega) (by omega)]
        exact ev_pos c (ev_bind (within_eq _ _ _) (ev_pos (by simp; omega) (ev_eq fun _ => rfl)))
      · unfold spec_BalancedHouse.f spec_hoBalanced.f
        rw [hoStreet_eq]
        simp only [Option.bind_some]
        rw [wrap_of (x := a - 1) (by omega) (by omega), hs1, hs2]
        simp only [Option.bind_some]
        rw [wrap_of (x := tri b + tri (a - 1)) (by omega) (by omega)]
        refine ev_pos (by simpa using hst) (Ev.bind (a := r) (Ev.bind r2 ?_) (ev_eq fun _ => ?_))
        · rw [wrap_of (x := r * r) (by omega) (by omega)]
          exact ev_pos c (ev_eq fun _ => rfl)
        · have : r > 0 := by omega
          simp [this]
      · rw [root_of_sq r3 h0 r4 r5 e]
    · refine ⟨(0, false), ?_, ?_, .inl rfl, fun h _ h0 e => absurd (show r * r = tri b + tri (a - 1) by rw [root_of_sq r3 h0 r4 r5 e]; exact e) c⟩
      · unfold impl_BalancedHouse.f
        rw [isStreet_eq]
        simp only [Option.bind_some]
        rw [wrap_of (x := a - 1) (by omega) (by omega), upTo_eq (n := b) (by omega) (by omega), upTo_eq (n := a - 1) (by omega) (by omega)]
        simp only [Option.bind_some]
        rw [wrap_of (x := tri b + tri (a - 1)) (by omega) (by omega)]
        refine ev_pos (by simpa using hst) (Ev.bind r1 ?_)
        rw [wrap_of (x := r * r) (by omega) (by omega)]
        exact ev_neg c (ev_eq fun _ => rfl)
      · unfold spec_BalancedHouse.f spec_hoBalanced.f
        rw [hoStreet_eq]
        simp only [Option.bind_some]
        rw [wrap_of (x := a - 1) (by omega) (by omega), hs1, hs2]
        simp only [Option.bind_some]
        rw [wrap_of (x := tri b + tri (a - 1)) (by omega) (by omega)]
        refine ev_pos (by simpa using hst) (Ev.bind (a := 0) (Ev.bind r2 ?_) (ev_eq fun _ => rfl))
        rw [wrap_of (x := r * r) (by omega) (by omega)]
        exact ev_neg c (ev_eq fun _ => rfl)
  · refine ⟨(0, false), ev_eq fun k => ?_, ev_eq fun k => ?_, .inl rfl, fun h x => absurd x hst⟩
    · unfold impl_BalancedHouse.f
      rw [isStreet_eq]
      simp only [Option.bind_some]
      rw [if_neg (by simpa using hst)]
    · unfold spec_BalancedHouse.f
      rw [hoStreet_eq]
      simp only [Option.bind_some]
      rw [if_neg (by simpa using hst)]
/-- the least last house with at least a sum -/
theorem lastFor_loop (a s : Int) (ha : 1 ≤ a ∧ a ≤ 1000000) : ∀ (d : Nat) (lo hi : Int), (hi - lo).toNat = d → a ≤ lo → lo ≤ hi → hi ≤ 1000001 → (∀ x, a ≤ x → x < lo → tri x - tri (a - 1) < s) → (hi = 1000001 ∨ tri hi - tri (a - 1) ≥ s) →
    ∃ r, Ev (fun k => impl_lastFor.l0 k a s lo hi) r ∧ lo ≤ r ∧ r ≤ hi ∧ (∀ x, a ≤ x → x < r → tri x - tri (a - 1) < s) ∧ (r = 1000001 ∨ tri r - tri (a - 1) ≥ s) := by
  intro d
  induction d using Nat.strongRecOn with
  | _ d ih =>
    intro lo hi hd h0 hle hb h1 h2
    have ta := tri_bound (n := a - 1) (by omega) (by omega)
    by_cases c : lo < hi
    · have hm : lo ≤ (lo + hi) / 2 ∧ (lo + hi) / 2 < hi := by omega
      have e : wrap64 (Int.tdiv (wrap64 (lo + hi)) 2) = (lo + hi) / 2 := by
        rw [wrap_of (x := lo + hi) (by omega) (by omega), Int.tdiv_eq_ediv_of_nonneg (by omega)]
        exact wrap_of (by omega) (by omega)
      generalize hmid : (lo + hi) / 2 = m at *
      have tm := tri_bound (n := m) (by omega) (by omega)
      by_cases c2 : tri m - tri (a - 1) ≥ s
      · obtain ⟨r, hr, g1, g2, g3⟩ := ih (m - lo).toNat (by omega) lo m rfl h0 hm.1 (by omega) h1 (.inr c2)
        refine ⟨r, ev_succ ?_, g1, by omega, g3⟩
        simp only [impl_lastFor.l0]
        rw [e, wrap_of (x := a - 1) (by omega) (by omega), upTo_eq (n := m) (by omega) (by omega), upTo_eq (n := a - 1) (by omega) (by omega)]
        simp only [Option.bind_some]
        rw [wrap_of (x := tri m - tri (a - 1)) (by omega) (by omega)]
        exact ev_pos c (ev_pos c2 hr)
      · obtain ⟨r, hr, g1, g2, g3⟩ := ih (hi - (m + 1)).toNat (by omega) (m + 1) hi rfl (by omega) (by omega) hb (fun x hx hx2 => by
          by_cases cx : x < lo
          · exact h1 x hx cx
          · have := tri_mono (m := x) (n := m) (by omega) (by omega); omega) h2
        refine ⟨r, ev_succ ?_, by omega, g2, g3⟩
        simp only [impl_lastFor.l0]
        rw [e, wrap_of (x := a - 1) (by omega) (by omega), upTo_eq (n := m) (by omega) (by omega), upTo_eq (n := a - 1) (by omega) (by omega)]
        simp only [Option.bind_some]
        rw [wrap_of (x := tri m - tri (a - 1)) (by omega) (by omega), wrap_of (x := m + 1) (by omega) (by omega)]
        exact ev_pos c (ev_neg c2 hr)
    · have : lo = hi := by omega
      subst this
      refine ⟨lo, ev_succ ?_, by omega, by omega, h1, h2⟩
      simp only [impl_lastFor.l0]
      exact ev_neg c (ev_eq fun _ => rfl)
theorem lastFor_ev (a s : Int) (ha : 1 ≤ a ∧ a ≤ 1000000) : ∃ r, Ev (fun k => impl_lastFor.f k a s) r ∧ a ≤ r ∧ r ≤ 1000001 ∧ (∀ x, a ≤ x → x < r → tri x - tri (a - 1) < s) ∧ (r = 1000001 ∨ tri r - tri (a - 1) ≥ s) :=
  lastFor_loop a s ha _ a 1000001 rfl (by omega) (by omega) (by omega) (fun x h1 h2 => by omega) (.inl rfl)
theorem dblImpl (a b : Int) : ∃ o, Ev (fun k => impl_DoubleSum.f k a b) o ∧ Ev (fun k => spec_DoubleSum.f k a b) o ∧
    (o = (0, false) ∨ ∃ h, o = (h, true) ∧ St a b ∧ a ≤ h ∧ h < b ∧ 2 * (tri h - tri (a - 1)) = tri b - tri (a - 1)) := by
  by_cases hst : St a b
  · obtain ⟨h1, h2, h3⟩ := id hst
    have tb := tri_bound (n := b) (by omega) (by omega)
    have ta := tri_bound (n := a - 1) (by omega) (by omega)
    have tab := tri_lt (m := a - 1) (n := b) (by omega) (by omega)
    obtain ⟨m, m1, m2, m3, m4, m5⟩ := lastFor_ev a ((tri b - tri (a - 1) + 1) / 2) ⟨h1, by omega⟩
    have tm := tri_bound (n := m) (by omega) (by omega)
    obtain ⟨r, r1, r2, r3, r4, r5⟩ := roots (tri b - tri (a - 1) + 2 * tri (a - 1)) (by omega) (by omega)
    have hrb : r ≤ 3000000 := by
      by_cases c : r ≤ 3000000
      · exact c
      · have : 3000000 * 3000000 ≤ r * r := Int.mul_le_mul (by omega) (by omega) (by omega) (by omega)
        omega
    have rr1 := mul_big r3 hrb (show (0 : Int) ≤ r + 1 by omega) (show r + 1 ≤ 3000001 by omega)
    have hs2 : spec_hoSum.f 1 (a - 1) = some (tri (a - 1)) := by
      have h := hoSum_eq (a := 1) (b := a - 1) (by omega) (by omega) (by omega)
      have e : tri (1 - 1) = 0 := rfl
      rw [h, e]; congr 1; omega
    have hs1 := hoSum_eq (a := a) (b := b) h1 (by omega) h3
    have evI : ∀ o, (if 2 * (tri m - tri (a - 1)) = tri b - tri (a - 1) then ((m, true) : Int × Bool) else (0, false)) = o → Ev (fun k => impl_DoubleSum.f k a b) o := by
      intro o ho
      unfold impl_DoubleSum.f
      rw [isStreet_eq]
      simp only [Option.bind_some]
      rw [wrap_of (x := a - 1) (by omega) (by omega), upTo_eq (n := b) (by omega) (by omega), upTo_eq (n := a - 1) (by omega) (by omega)]
      simp only [Option.bind_some]
      rw [wrap_of (x := tri b - tri (a - 1)) (by omega) (by omega), wrap_of (x := tri b - tri (a - 1) + 1) (by omega) (by omega), Int.tdiv_eq_ediv_of_nonneg (show 0 ≤ tri b - tri (a - 1) + 1 by omega), wrap_of (x := (tri b - tri (a - 1) + 1) / 2) (by omega) (by omega)]
      refine ev_pos (by simpa using hst) (Ev.bind m1 ?_)
      rw [upTo_eq (n := m) (by omega) (by omega)]
      simp only [Option.bind_some]
      rw [wrap_of (x := tri m - tri (a - 1)) (by omega) (by omega), wrap_of (x := 2 * (tri m - tri (a - 1))) (by omega) (by omega)]
      by_cases c : 2 * (tri m - tri (a - 1)) = tri b - tri (a - 1)
      · rw [if_pos c] at ho; subst ho; exact ev_pos c (ev_eq fun _ => rfl)
      · rw [if_neg c] at ho; subst ho; exact ev_neg c (ev_eq fun _ => rfl)
    have evS : ∀ o, (if (tri b - tri (a - 1)) % 2 = 0 ∧ r * (r + 1) = tri b - tri (a - 1) + 2 * tri (a - 1) ∧ a ≤ r then ((r, true) : Int × Bool) else (0, false)) = o → Ev (fun k => spec_DoubleSum.f k a b) o := by
      intro o ho
      unfold spec_DoubleSum.f
      rw [hoStreet_eq, wrap_of (x := a - 1) (by omega) (by omega), hs1, hs2]
      simp only [Option.bind_some]
      rw [wrap_of (x := 2 * tri (a - 1)) (by omega) (by omega), wrap_of (x := tri b - tri (a - 1) + 2 * tri (a - 1)) (by omega) (by omega), Int.tmod_eq_emod_of_nonneg (show 0 ≤ tri b - tri (a - 1) by omega)]
      refine ev_pos (by simpa using hst) (Ev.bind r2 ?_)
      rw [wrap_of (x := r + 1) (by omega) (by omega), wrap_of (x := r * (r + 1)) (by omega) (by omega)]
      by_cases c1 : (tri b - tri (a - 1)) % 2 = 0
      · refine ev_pos c1 ?_
        by_cases c2 : r * (r + 1) = tri b - tri (a - 1) + 2 * tri (a - 1)
        · refine ev_pos c2 ?_
          by_cases c3 : r < a
          · rw [if_neg (fun x => by omega)] at ho; subst ho; exact ev_pos c3 (ev_eq fun _ => rfl)
          · rw [if_pos ⟨c1, c2, by omega⟩] at ho; subst ho; exact ev_neg c3 (ev_eq fun _ => rfl)
        · rw [if_neg (fun x => c2 x.2.1)] at ho; subst ho; exact ev_neg c2 (ev_eq fun _ => rfl)
      · rw [if_neg (fun x => c1 x.1)] at ho; subst ho; exact ev_neg c1 (ev_eq fun _ => rfl)
    by_cases c : 2 * (tri m - tri (a - 1)) = tri b - tri (a - 1)
    · have tm2 := tri_two m
      have hq : (m + 1) * (m + 1) = m * m + 2 * m + 1 := by grind
      have hq2 : m * (m + 1) = m * m + m := by grind
      have erm : r = m := by
        have x1 := root_le (n := r * r) r3 (show 0 ≤ m by omega) (by omega) (by omega)
        have x2 := root_le (n := m * m) (show 0 ≤ m by omega) r3 (by omega) (by omega)
        omega
      have hlt : m < b := by
        by_cases cx : m < b
        · exact cx
        · have := tri_mono (m := b) (n := m) (by omega) (by omega); omega
      refine ⟨(m, true), evI _ (if_pos c), evS _ ?_, .inr ⟨m, rfl, hst, m2, hlt, c⟩⟩
      rw [erm]
      exact if_pos ⟨by omega, by omega, m2⟩
    · refine ⟨(0, false), evI _ (if_neg c), evS _ (if_neg ?_), .inl rfl⟩
      rintro ⟨x1, x2, x3⟩
      have tr2 := tri_two r
      have e1 : 2 * (tri r - tri (a - 1)) = tri b - tri (a - 1) := by omega
      have hrb2 : r < b := by
        by_cases cx : r < b
        · exact cx
        · have := tri_mono (m := b) (n := r) (by omega) (by omega); omega
      have emr : m = r := by
        have y1 : m ≤ r := by
          by_cases cx : m ≤ r
          · exact cx
          · have := m4 r x3 (by omega); omega
        by_cases cx : m = r
        · exact cx
        · have := tri_lt (m := m) (n := r) (by omega) (by omega)
          rcases m5 with z | z <;> omega
      rw [emr] at c
      exact c e1
  · refine ⟨(0, false), ev_eq fun k => ?_, ev_eq fun k => ?_, .inl rfl⟩
    · unfold impl_DoubleSum.f
      rw [isStreet_eq]
      simp only [Option.bind_some]
      rw [if_neg (by simpa using hst)]
    · unfold spec_DoubleSum.f
      rw [hoStreet_eq]
      simp only [Option.bind_some]
      rw [if_neg (by simpa using hst)]

/-! ### middle houses, sums to both sides -/
def midO (a b : Int) : Int × Int × Bool := if St a b then (if (a + b) % 2 = 0 then ((a + b) / 2, 1, true) else (a + b, 2, true)) else (0, 0, false)
theorem midImpl_eq (a b : Int) : impl_MiddleHouse.f a b = some (midO a b) := by
  unfold impl_MiddleHouse.f midO
  rw [isStreet_eq]
  simp only [Option.bind_some]
  by_cases h : St a b
  · rw [if_pos (by simpa using h), if_pos h]
    obtain ⟨h1, h2, h3⟩ := h
    rw [wrap_of (x := a + b) (by omega) (by omega), Int.tmod_eq_emod_of_nonneg (by omega), Int.tdiv_eq_ediv_of_nonneg (by omega), wrap_of (x := (a + b) / 2) (by omega) (by omega)]
    by_cases c : (a + b) % 2 = 0
    · rw [if_pos c, if_neg (by omega)]
    · rw [if_neg c, if_pos (by omega)]
  · rw [if_neg (by simpa using h), if_neg h]
theorem midSpec_eq (a b : Int) : spec_MiddleHouse.f a b = some (midO a b) := by
  unfold spec_MiddleHouse.f midO
  rw [hoStreet_eq]
  simp only [Option.bind_some]
  by_cases h : St a b
  · rw [if_pos (by simpa using h), if_pos h]
    obtain ⟨h1, h2, h3⟩ := h
    rw [wrap_of (x := a + b) (by omega) (by omega), Int.tmod_eq_emod_of_nonneg (by omega), Int.tdiv_eq_ediv_of_nonneg (by omega), wrap_of (x := (a + b) / 2) (by omega) (by omega)]
    by_cases c : (a + b) % 2 = 0
    · rw [if_pos c, if_pos c]
    · rw [if_neg c, if_neg c]
  · rw [if_neg (by simpa using h), if_neg h]
def Sh (a b h : Int) : Prop := St a b ∧ a ≤ h ∧ h ≤ b
instance (a b h : Int) : Decidable (Sh a b h) := inferInstanceAs (Decidable (_ ∧ _ ∧ _))
def leftO (a b h : Int) : Int × Bool := if Sh a b h then (tri (h - 1) - tri (a - 1), true) else (0, false)
def rightO (a b h : Int) : Int × Bool := if Sh a b h then (tri b - tri h, true) else (0, false)
theorem hoHouse_eq (a b h : Int) : spec_hoHouse.f a b h = some (decide (Sh a b h)) := by
  unfold spec_hoHouse.f
  rw [hoStreet_eq, l1In_eq]
  simp only [Option.bind_some]
  by_cases c : St a b
  · rw [if_pos (by simpa using c)]; exact congrArg some (decide_eq_decide.mpr ⟨fun x => ⟨c, x⟩, fun x => x.2⟩)
  · rw [if_neg (by simpa using c)]; exact congrArg some (decide_eq_false (fun x => c x.1)).symm
theorem leftSpec_eq (a b h : Int) : spec_SumLeft.f a b h = some (leftO a b h) := by
  unfold spec_SumLeft.f leftO
  rw [hoHouse_eq]
  simp only [Option.bind_some]
  by_cases c : Sh a b h
  · rw [if_pos (by simpa using c), if_pos c]
    obtain ⟨⟨h1, h2, h3⟩, h4, h5⟩ := c
    rw [wrap_of (x := h - 1) (by omega) (by omega), hoSum_eq h1 (by omega) (by omega)]
    rfl
  · rw [if_neg (by simpa using c), if_neg c]
theorem rightSpec_eq (a b h : Int) : spec_SumRight.f a b h = some (rightO a b h) := by
  unfold spec_SumRight.f rightO
  rw [hoHouse_eq]
  simp only [Option.bind_some]
  by_cases c : Sh a b h
  · rw [if_pos (by simpa using c), if_pos c]
    obtain ⟨⟨h1, h2, h3⟩, h4, h5⟩ := c
    rw [wrap_of (x := h + 1) (by omega) (by omega), hoSum_eq (by omega) (by omega) (by omega), show h + 1 - 1 = h by omega]
    rfl
  · rw [if_neg (by simpa using c), if_neg c]
theorem leftImpl_ev (a b h : Int) : Ev (fun k => impl_SumLeft.f k a b h) (leftO a b h) := by
  unfold impl_SumLeft.f leftO
  rw [isStreet_eq]
  simp only [Option.bind_some]
  have j1 : Ev (fun k => impl_SumLeft.j0 k a h true) (0, false) := ev_succ (by simp only [impl_SumLeft.j0]; exact ev_pos (by first | rfl | trivial) (ev_eq fun _ => rfl))
  by_cases c : St a b
  · refine ev_pos (by simpa using c) (ev_bind (within_eq _ _ _) ?_)
    by_cases d : a ≤ h ∧ h ≤ b
    · rw [decide_eq_true d, if_pos (show Sh a b h from ⟨c, d⟩)]
      obtain ⟨h1, h2, h3⟩ := c
      refine ev_succ ?_
      simp only [impl_SumLeft.j0]
      rw [wrap_of (x := h - 1) (by omega) (by omega), wrap_of (x := a - 1) (by omega) (by omega), upTo_eq (n := h - 1) (by omega) (by omega), upTo_eq (n := a - 1) (by omega) (by omega)]
      simp only [Option.bind_some]
      have t1 := tri_bound (n := h - 1) (by omega) (by omega)
      have t2 := tri_bound (n := a - 1) (by omega) (by omega)
      rw [wrap_of (x := tri (h - 1) - tri (a - 1)) (by omega) (by omega)]
      exact ev_neg (by decide) (ev_eq fun _ => rfl)
    · rw [decide_eq_false d, if_neg (fun x : Sh a b h => d x.2)]
      exact j1
  · rw [if_neg (fun x : Sh a b h => c x.1)]
    exact ev_neg (by simpa using c) j1
theorem rightImpl_ev (a b h : Int) : Ev (fun k => impl_SumRight.f k a b h) (rightO a b h) := by
  unfold impl_SumRight.f rightO
  rw [isStreet_eq]
  simp only [Option.bind_some]
  have j1 : Ev (fun k => impl_SumRight.j0 k b h true) (0, false) := ev_succ (by simp only [impl_SumRight.j0]; exact ev_pos (by first | rfl | trivial) (ev_eq fun _ => rfl))
  by_cases c : St a b
  · refine ev_pos (by simpa using c) (ev_bind (within_eq _ _ _) ?_)
    by_cases d : a ≤ h ∧ h ≤ b
    · rw [decide_eq_true d, if_pos (show Sh a b h from ⟨c, d⟩)]
      obtain ⟨h1, h2, h3⟩ := c
      refine ev_succ ?_
      simp only [impl_SumRight.j0]
      rw [upTo_eq (n := b) (by omega) (by omega), upTo_eq (n := h) (by omega) (by omega)]
      simp only [Option.bind_some]
      have t1 := tri_bound (n := b) (by omega) (by omega)
      have t2 := tri_bound (n := h) (by omega) (by omega)
      rw [wrap_of (x := tri b - tri h) (by omega) (by omega)]
      exact ev_neg (by decide) (ev_eq fun _ => rfl)
    · rw [decide_eq_false d, if_neg (fun x : Sh a b h => d x.2)]
      exact j1
  · rw [if_neg (fun x : Sh a b h => c x.1)]
    exact ev_neg (by simpa using c) j1

/-! ### streets with a balanced house -/
def ps : Nat → Int × Int
  | 0 => (1, 1)
  | i + 1 => (3 * (ps i).1 + 2 * (ps i).2 + 1, 4 * (ps i).1 + 3 * (ps i).2 + 1)
theorem ps_sq (i : Nat) : Sq (ps i).1 (ps i).2 := by
  induction i with
  | zero => exact ⟨by decide, by decide, by decide⟩
  | succ i ih => exact sq_up ih
theorem ps_lt (i : Nat) : (ps i).2 < (ps (i + 1)).2 := by
  have h := ps_sq i
  have h1 := h.1
  have h2 := h.2.1
  show (ps i).2 < 4 * (ps i).1 + 3 * (ps i).2 + 1
  omega
theorem ps_le {i j : Nat} (h : i ≤ j) : (ps i).2 ≤ (ps j).2 := by
  induction j with
  | zero => have : i = 0 := by omega
            subst this; exact Int.le_refl _
  | succ j ih =>
    by_cases c : i = j + 1
    · subst c; exact Int.le_refl _
    · have := ih (by omega); have := ps_lt j; omega
theorem ps_big (i : Nat) : (i : Int) + 1 ≤ (ps i).2 := by
  induction i with
  | zero => decide
  | succ i ih => have := ps_lt i; omega
theorem sq_hn {h n : Int} (e : Sq h n) : h ≤ n := by
  obtain ⟨a, b, e⟩ := e
  by_cases c : h ≤ n
  · exact c
  · have : (n + 1) * (n + 1) ≤ h * h := Int.mul_le_mul (by omega) (by omega) (by omega) (by omega)
    have : (n + 1) * (n + 1) = n * n + 2 * n + 1 := by grind
    have : 0 ≤ n * n := Int.mul_nonneg (by omega) (by omega)
    omega
theorem least_ex (p : Nat → Prop) [DecidablePred p] : ∀ n, p n → ∃ c, p c ∧ ∀ i, i < c → ¬ p i := by
  intro n
  induction n using Nat.strongRecOn with
  | _ n ih =>
    intro h
    by_cases c : ∃ i, i < n ∧ p i
    · obtain ⟨i, hi, hp⟩ := c
      exact ih i hi hp
    · exact ⟨n, h, fun i hi hp => c ⟨i, hi, hp⟩⟩
theorem ps_end (m : Int) (hm : 0 ≤ m) : ∃ c, m < (ps c).2 ∧ ∀ i, i < c → (ps i).2 ≤ m := by
  obtain ⟨c, h1, h2⟩ := least_ex (fun c => m < (ps c).2) m.toNat (by have := ps_big m.toNat; show m < _; omega)
  exact ⟨c, h1, fun i hi => Int.not_lt.mp (h2 i hi)⟩
def sl (c : Nat) : List (List Int) := (List.range c).map fun i => [(ps i).1, (ps i).2]
def sq (c : Nat) : List Int := (List.range c).map fun i => (ps i).2
theorem sl_succ (c : Nat) : sl (c + 1) = sl c ++ [[(ps c).1, (ps c).2]] := by simp [sl, List.range_succ]
theorem sq_succ (c : Nat) : sq (c + 1) = sq c ++ [(ps c).2] := by simp [sq, List.range_succ]
theorem sl_len (c : Nat) : (sl c).length = c := by simp [sl]
theorem sq_len (c : Nat) : (sq c).length = c := by simp [sq]
theorem c_small {m : Int} {c : Nat} (hm : m ≤ 1000000) (h : ∀ i, i < c → (ps i).2 ≤ m) : c ≤ 1000000 := by
  by_cases z : c = 0
  · omega
  · have := h (c - 1) (by omega); have := ps_big (c - 1); omega
theorem streetsSpec_loop (m : Int) (hm : m ≤ 1000000) (c : Nat) (h1 : m < (ps c).2) (h2 : ∀ i, i < c → (ps i).2 ≤ m) : ∀ (d i : Nat), i + d = c → Ev (fun k => spec_BalancedStreets.l0 k m (sl i) (ps i).1 (ps i).2) (sl c, true) := by
  have hc := c_small hm h2
  intro d
  induction d with
  | zero =>
    intro i hi
    have : i = c := by omega
    subst this
    refine ev_succ ?_
    simp only [spec_BalancedStreets.l0]
    exact ev_neg (by omega) (ev_eq fun _ => rfl)
  | succ d ih =>
    intro i hi
    refine ev_succ ?_
    simp only [spec_BalancedStreets.l0]
    have hs := ps_sq i
    have b1 := hs.1
    have b2 := hs.2.1
    have b3 := sq_hn hs
    have b4 := h2 i (by omega)
    have ihh := ih (i + 1) (by omega)
    rw [sl_succ] at ihh
    rw [sl_len, wrap_of (x := 3 * (ps i).1) (by omega) (by omega), wrap_of (x := 2 * (ps i).2) (by omega) (by omega), wrap_of (x := 3 * (ps i).1 + 2 * (ps i).2) (by omega) (by omega), wrap_of (x := 3 * (ps i).1 + 2 * (ps i).2 + 1) (by omega) (by omega),
      wrap_of (x := 4 * (ps i).1) (by omega) (by omega), wrap_of (x := 3 * (ps i).2) (by omega) (by omega), wrap_of (x := 4 * (ps i).1 + 3 * (ps i).2) (by omega) (by omega), wrap_of (x := 4 * (ps i).1 + 3 * (ps i).2 + 1) (by omega) (by omega)]
    exact ev_pos b4 (ev_pos (by omega) ihh)
theorem squaresSpec_loop (m : Int) (hm : m ≤ 1000000) (c : Nat) (h1 : m < (ps c).2) (h2 : ∀ i, i < c → (ps i).2 ≤ m) : ∀ (d i : Nat), i + d = c → Ev (fun k => spec_SquareStreets.l0 k m (sq i) (ps i).1 (ps i).2) (sq c, true) := by
  have hc := c_small hm h2
  intro d
  induction d with
  | zero =>
    intro i hi
    have : i = c := by omega
    subst this
    refine ev_succ ?_
    simp only [spec_SquareStreets.l0]
    exact ev_neg (by omega) (ev_eq fun _ => rfl)
  | succ d ih =>
    intro i hi
    refine ev_succ ?_
    simp only [spec_SquareStreets.l0]
    have hs := ps_sq i
    have b1 := hs.1
    have b2 := hs.2.1
    have b3 := sq_hn hs
    have b4 := h2 i (by omega)
    have ihh := ih (i + 1) (by omega)
    rw [sq_succ] at ihh
    rw [sq_len, wrap_of (x := 3 * (ps i).1) (by omega) (by omega), wrap_of (x := 2 * (ps i).2) (by omega) (by omega), wrap_of (x := 3 * (ps i).1 + 2 * (ps i).2) (by omega) (by omega), wrap_of (x := 3 * (ps i).1 + 2 * (ps i).2 + 1) (by omega) (by omega),
      wrap_of (x := 4 * (ps i).1) (by omega) (by omega), wrap_of (x := 3 * (ps i).2) (by omega) (by omega), wrap_of (x := 4 * (ps i).1 + 3 * (ps i).2) (by omega) (by omega), wrap_of (x := 4 * (ps i).1 + 3 * (ps i).2 + 1) (by omega) (by omega)]
    exact ev_pos b4 (ev_pos (by omega) ihh)
theorem ceil_ex (L : Int) (h1 : 1 ≤ L) : ∃ s : Int, 1 ≤ s ∧ s ≤ L ∧ tri L ≤ s * s ∧ (s - 1) * (s - 1) < tri L := by
  have t := tri_two L
  have hl : L * L ≤ L * (L + 1) := Int.mul_le_mul_of_nonneg_left (by omega) (by omega)
  have hq : L * (L + 1) = L * L + L := by grind
  have hL2 : L ≤ L * L := by have := Int.mul_le_mul_of_nonneg_right h1 (show (0 : Int) ≤ L by omega); omega
  obtain ⟨c, hc1, hc2⟩ := least_ex (fun c : Nat => tri L ≤ (c : Int) * c) L.toNat (by show tri L ≤ _; rw [Int.toNat_of_nonneg (by omega)]; omega)
  have c0 : c ≠ 0 := by
    rintro rfl
    simp at hc1
    omega
  refine ⟨(c : Int), by omega, ?_, hc1, ?_⟩
  · by_cases z : (c : Int) ≤ L
    · exact z
    · exfalso
      refine hc2 L.toNat (by omega) ?_
      show tri L ≤ _
      rw [Int.toNat_of_nonneg (by omega)]
      omega
  · have := hc2 (c - 1) (by omega)
    have e : ((c - 1 : Nat) : Int) = (c : Int) - 1 := by omega
    rw [e] at this
    exact Int.not_le.mp this
theorem streetsImpl_l1 (m : Int) (xs : List (List Int)) (L : Int) (hL : 1 ≤ L ∧ L ≤ 1000000) (s : Int) (hs1 : 1 ≤ s) (hs2 : s ≤ L) (hs3 : tri L ≤ s * s) (hs4 : (s - 1) * (s - 1) < tri L) (r : List (List Int) × Bool)
    (h : Ev (fun k => if s * s = tri L then (if xs.length < 5864062014805 then impl_BalancedStreets.l0 k m (xs ++ [[s, L]]) s (wrap64 (L + 1)) else none) else impl_BalancedStreets.l0 k m xs s (wrap64 (L + 1))) r) :
    ∀ (d : Nat) (h0 : Int), 0 ≤ h0 → h0 + d = s → Ev (fun k => impl_BalancedStreets.l1 k m xs h0 L) r := by
  intro d
  induction d with
  | zero =>
    intro h0 hp he
    have : h0 = s := by omega
    subst this
    have sb := sq_bound (m := h0) (by omega) (by omega)
    refine ev_succ ?_
    simp only [impl_BalancedStreets.l1]
    rw [upTo_eq (n := L) (by omega) (by omega), wrap_of (x := h0 * h0) (by omega) (by omega)]
    simp only [Option.bind_some]
    exact ev_neg (by omega) h
  | succ d ih =>
    intro h0 hp he
    have sb := sq_bound (m := h0) (by omega) (by omega)
    have hlt : h0 * h0 < tri L := by
      have : h0 * h0 ≤ (s - 1) * (s - 1) := Int.mul_le_mul (by omega) (by omega) (by omega) (by omega)
      omega
    refine ev_succ ?_
    simp only [impl_BalancedStreets.l1]
    rw [upTo_eq (n := L) (by omega) (by omega), wrap_of (x := h0 * h0) (by omega) (by omega), wrap_of (x := h0 + 1) (by omega) (by omega)]
    simp only [Option.bind_some]
    exact ev_pos hlt (ih (h0 + 1) (by omega) (by omega))
theorem streetsImpl_loop (m : Int) (hm : 1 ≤ m ∧ m ≤ 1000000) (c : Nat) (h1 : m < (ps c).2) (h2 : ∀ i, i < c → (ps i).2 ≤ m) : ∀ (d : Nat) (L h : Int) (i : Nat), L + d = m + 1 → 1 ≤ L → i ≤ c → (∀ j, j < i → (ps j).2 < L) → L ≤ (ps i).2 → 0 ≤ h → (h = 0 ∨ (h - 1) * (h - 1) < tri L) →
    Ev (fun k => impl_BalancedStreets.l0 k m (sl i) h L) (sl c, true) := by
  have hc := c_small hm.2 h2
  intro d
  induction d with
  | zero =>
    intro L h i hd hL hi hj hLi h0 hh
    have : i = c := by
      by_cases z : i < c
      · have := h2 i z; omega
      · omega
    subst this
    refine ev_succ ?_
    simp only [impl_BalancedStreets.l0]
    exact ev_neg (by omega) (ev_eq fun _ => rfl)
  | succ d ih =>
    intro L h i hd hL hi hj hLi h0 hh
    obtain ⟨s, s1, s2, s3, s4⟩ := ceil_ex L hL
    have hts := tri_step L
    have tL := tri_two L
    have hs : h ≤ s := by
      rcases hh with rfl | hh
      · omega
      · skip
        by_cases z : h ≤ s
        · exact z
        · have : s * s ≤ (h - 1) * (h - 1) := Int.mul_le_mul (by omega) (by omega) (by omega) (by omega)
          omega
    have t1 : 1 ≤ tri L := by have := tri_mono (m := 1) (n := L) (by omega) hL; have e : tri 1 = 1 := rfl; omega
    refine ev_succ ?_
    simp only [impl_BalancedStreets.l0]
    refine ev_pos (by omega) ?_
    have hw : wrap64 (L + 1) = L + 1 := wrap_of (by omega) (by omega)
    obtain ⟨e, he⟩ : ∃ e : Nat, h + e = s := ⟨(s - h).toNat, by omega⟩
    refine streetsImpl_l1 m (sl i) L ⟨hL, by omega⟩ s s1 s2 s3 s4 _ ?_ e h h0 he
    rw [hw]
    have hSi := ps_sq i
    by_cases cq : s * s = tri L
    · have hS : Sq s L := ⟨by omega, by omega, by have : L * (L + 1) = L * L + L := by grind
                                                  omega⟩
      have hLe : L = (ps i).2 := by
        by_cases z : i = 0
        · subst z
          have e : (ps 0).2 = 1 := rfl
          omega
        · have hg := sq_gap ((ps (i - 1)).2.toNat + 1) (ps (i - 1)).1 (ps (i - 1)).2 s L (by omega) (ps_sq (i - 1)) hS (hj (i - 1) (by omega))
          have e : (ps i).2 = 4 * (ps (i - 1)).1 + 3 * (ps (i - 1)).2 + 1 := by
            obtain ⟨j, rfl⟩ : ∃ j, i = j + 1 := ⟨i - 1, by omega⟩
            rfl
          omega
      have hse : s = (ps i).1 := by
        have a1 := sq_mono hS hSi (by omega)
        have a2 := sq_mono hSi hS (by omega)
        omega
      refine ev_pos cq (ev_pos (by rw [sl_len]; omega) ?_)
      have hic : i < c := by
        by_cases z : i < c
        · exact z
        · have : i = c := by omega
          subst this
          omega
      have := ih (L + 1) s (i + 1) (by omega) (by omega) (by omega) (fun j hj2 => by
        by_cases z : j < i
        · have := hj j z; omega
        · have : j = i := by omega
          subst this; omega) (by have := ps_lt i; omega) (by omega) (.inr (by omega))
      rw [sl_succ] at this
      rw [hse, hLe] at this ⊢
      exact this
    · refine ev_neg cq ?_
      refine ih (L + 1) s i (by omega) (by omega) hi (fun j hj2 => by have := hj j hj2; omega) ?_ (by omega) (.inr (by omega))
      by_cases z : L = (ps i).2
      · exfalso
        apply cq
        obtain ⟨q1, q2, q3⟩ := hSi
        rw [← z] at q3
        have hq : L * (L + 1) = L * L + L := by grind
        have e1 : (ps i).1 * (ps i).1 = tri L := by omega
        have a1 := root_le (a := s - 1) (b := (ps i).1 - 1) (n := (s - 1) * (s - 1)) (by omega) (by omega) (by omega) (by rw [show (ps i).1 - 1 + 1 = (ps i).1 by omega]; omega)
        have a2 : (ps i).1 ≤ s := by
          by_cases y : (ps i).1 ≤ s
          · exact y
          · have : (s + 1) * (s + 1) ≤ (ps i).1 * (ps i).1 := Int.mul_le_mul (by omega) (by omega) (by omega) (by omega)
            have : (s + 1) * (s + 1) = s * s + 2 * s + 1 := by grind
            omega
        have : s = (ps i).1 := by omega
        rw [this]; exact e1
      · omega

/-! ### the streets, as both sides make them -/
theorem sl_rd {c i : Nat} (h : i < c) : rd_L2 (sl c) (i : Int) = [(ps i).1, (ps i).2] := by
  unfold rd_L2 sl
  rw [Int.toNat_natCast, List.getD_eq_getElem?_getD, List.getElem?_map, List.getElem?_range h]
  rfl
theorem sq_rd {c i : Nat} (h : i < c) : rd (sq c) (i : Int) = (ps i).2 := by
  unfold rd sq
  rw [Int.toNat_natCast, List.getD_eq_getElem?_getD, List.getElem?_map, List.getElem?_range h]
  rfl
theorem squaresImpl_loop (b : Bool) (c : Nat) (hc : c ≤ 1000000) : ∀ (d i : Nat), i + d = c → Ev (fun k => impl_SquareStreets.l0 k b (sq i) (sl c) (c : Int) (i : Int)) (sq c, b) := by
  intro d
  induction d with
  | zero =>
    intro i hi
    have : i = c := by omega
    subst this
    refine ev_succ ?_
    simp only [impl_SquareStreets.l0]
    exact ev_neg (by omega) (ev_eq fun _ => rfl)
  | succ d ih =>
    intro i hi
    refine ev_succ ?_
    simp only [impl_SquareStreets.l0]
    have ihh := ih (i + 1) (by omega)
    rw [sq_succ] at ihh
    rw [sl_len, sq_len, sl_rd (c := c) (i := i) (by omega), wrap_nat (i := i) (by omega)]
    exact ev_pos (by omega) (ev_pos (by omega) (ev_pos (by omega) (ev_pos (by simp) (ev_pos (by omega) ihh))))
theorem streets_ok (m : Int) : ∃ (c : Nat) (b : Bool), Ev (fun k => impl_BalancedStreets.f k m) (sl c, b) ∧ Ev (fun k => spec_BalancedStreets.f k m) (sl c, b) ∧
    Ev (fun k => impl_SquareStreets.f k m) (sq c, b) ∧ Ev (fun k => spec_SquareStreets.f k m) (sq c, b) ∧ b = decide (1 ≤ m ∧ m ≤ 1000000) ∧ c ≤ 1000000 ∧
    (b = true → m < (ps c).2 ∧ ∀ i, i < c → (ps i).2 ≤ m) := by
  by_cases h : 1 ≤ m ∧ m ≤ 1000000
  · obtain ⟨c, h1, h2⟩ := ps_end m (by omega)
    have hc := c_small h.2 h2
    have e1 : Ev (fun k => impl_BalancedStreets.f k m) (sl c, true) := by
      unfold impl_BalancedStreets.f
      refine ev_bind (isHouse_eq m) (ev_pos (by simpa using h) ?_)
      exact streetsImpl_loop m h c h1 h2 m.toNat 1 0 0 (by omega) (by omega) (by omega) (fun j hj => by omega) (by decide) (by omega) (.inl rfl)
    refine ⟨c, true, e1, ?_, ?_, ?_, (by simpa using h), hc, fun _ => ⟨h1, h2⟩⟩
    · unfold spec_BalancedStreets.f
      refine ev_bind (hoMost_eq m) (ev_pos (by simpa using h) ?_)
      exact streetsSpec_loop m h.2 c h1 h2 c 0 (by omega)
    · unfold impl_SquareStreets.f
      refine Ev.bind e1 ?_
      have := squaresImpl_loop true c hc c 0 (by omega)
      show Ev (fun k => impl_SquareStreets.l0 k true [] (sl c) ((sl c).length : Int) 0) (sq c, true)
      rw [sl_len]
      exact this
    · unfold spec_SquareStreets.f
      refine ev_bind (hoMost_eq m) (ev_pos (by simpa using h) ?_)
      exact squaresSpec_loop m h.2 c h1 h2 c 0 (by omega)
  · have e1 : Ev (fun k => impl_BalancedStreets.f k m) (sl 0, false) := by
      unfold impl_BalancedStreets.f
      exact ev_bind (isHouse_eq m) (ev_neg (by simpa using h) (ev_eq fun _ => rfl))
    refine ⟨0, false, e1, ?_, ?_, ?_, (by simpa using h), (by omega), fun z => by cases z⟩
    · unfold spec_BalancedStreets.f
      exact ev_bind (hoMost_eq m) (ev_neg (by simpa using h) (ev_eq fun _ => rfl))
    · unfold impl_SquareStreets.f
      refine Ev.bind e1 ?_
      exact squaresImpl_loop false 0 (by omega) 0 0 (by omega)
    · unfold spec_SquareStreets.f
      exact ev_bind (hoMost_eq m) (ev_neg (by simpa using h) (ev_eq fun _ => rfl))

/-! ### streets of odd houses with a balanced one -/
def po : Nat → Int × Int
  | 0 => (1, 1)
  | i + 1 => (3 * (po i).1 + 2 * (po i).2 - 1, 4 * (po i).1 + 3 * (po i).2 - 2)
theorem po_od (i : Nat) : Od (po i).1 (po i).2 := by
  induction i with
  | zero => exact ⟨by decide, by decide, by decide⟩
  | succ i ih => exact od_up ih
theorem po_lt (i : Nat) : (po i).2 < (po (i + 1)).2 := by
  have h := po_od i
  have h1 := h.1
  have h2 := h.2.1
  show (po i).2 < 4 * (po i).1 + 3 * (po i).2 - 2
  omega
theorem po_big (i : Nat) : (i : Int) + 1 ≤ (po i).2 := by
  induction i with
  | zero => decide
  | succ i ih => have := po_lt i; omega
theorem od_kn {k n : Int} (e : Od k n) : k ≤ n := by
  obtain ⟨a, b, e⟩ := e
  by_cases c : k ≤ n
  · exact c
  · have : (n + 1) * (n + 1) ≤ k * k := Int.mul_le_mul (by omega) (by omega) (by omega) (by omega)
    have : (n + 1) * (n + 1) = n * n + 2 * n + 1 := by grind
    have : 0 ≤ (k - 1) * (k - 1) := Int.mul_nonneg (by omega) (by omega)
    omega
theorem po_end (m : Int) (hm : 0 ≤ m) : ∃ c, m < 2 * (po c).2 - 1 ∧ ∀ i, i < c → 2 * (po i).2 - 1 ≤ m := by
  obtain ⟨c, h1, h2⟩ := least_ex (fun c => m < 2 * (po c).2 - 1) m.toNat (by have := po_big m.toNat; show m < _; omega)
  exact ⟨c, h1, fun i hi => Int.not_lt.mp (h2 i hi)⟩
def ol (c : Nat) : List (List Int) := (List.range c).map fun i => [2 * (po i).1 - 1, 2 * (po i).2 - 1]
theorem ol_succ (c : Nat) : ol (c + 1) = ol c ++ [[2 * (po c).1 - 1, 2 * (po c).2 - 1]] := by simp [ol, List.range_succ]
theorem ol_len (c : Nat) : (ol c).length = c := by simp [ol]
theorem ol_rd {c i : Nat} (h : i < c) : rd_L2 (ol c) (i : Int) = [2 * (po i).1 - 1, 2 * (po i).2 - 1] := by
  unfold rd_L2 ol
  rw [Int.toNat_natCast, List.getD_eq_getElem?_getD, List.getElem?_map, List.getElem?_range h]
  rfl
theorem o_small {m : Int} {c : Nat} (hm : m ≤ 1000000) (h : ∀ i, i < c → 2 * (po i).2 - 1 ≤ m) : c ≤ 1000000 := by
  by_cases z : c = 0
  · omega
  · have := h (c - 1) (by omega); have := po_big (c - 1); omega
theorem oddSpec_loop (m : Int) (hm : m ≤ 1000000) (c : Nat) (h1 : m < 2 * (po c).2 - 1) (h2 : ∀ i, i < c → 2 * (po i).2 - 1 ≤ m) : ∀ (d i : Nat), i + d = c → Ev (fun k => spec_BalancedOdd.l0 k m (ol i) (2 * (po i).1 - 1) (2 * (po i).2 - 1)) (ol c, true) := by
  have hc := o_small hm h2
  intro d
  induction d with
  | zero =>
    intro i hi
    have : i = c := by omega
    subst this
    refine ev_succ ?_
    simp only [spec_BalancedOdd.l0]
    exact ev_neg (by omega) (ev_eq fun _ => rfl)
  | succ d ih =>
    intro i hi
    refine ev_succ ?_
    simp only [spec_BalancedOdd.l0]
    have hs := po_od i
    have b1 := hs.1
    have b2 := hs.2.1
    have b3 := od_kn hs
    have b4 := h2 i (by omega)
    have ihh := ih (i + 1) (by omega)
    rw [ol_succ] at ihh
    have e1 : 2 * (po (i + 1)).1 - 1 = 3 * (2 * (po i).1 - 1) + 2 * (2 * (po i).2 - 1) + 2 := by show 2 * (3 * (po i).1 + 2 * (po i).2 - 1) - 1 = _; omega
    have e2 : 2 * (po (i + 1)).2 - 1 = 4 * (2 * (po i).1 - 1) + 3 * (2 * (po i).2 - 1) + 2 := by show 2 * (4 * (po i).1 + 3 * (po i).2 - 2) - 1 = _; omega
    rw [e1, e2] at ihh
    rw [ol_len]
    generalize hh : 2 * (po i).1 - 1 = h at *
    generalize hl : 2 * (po i).2 - 1 = l at *
    rw [wrap_of (x := 3 * h) (by omega) (by omega), wrap_of (x := 2 * l) (by omega) (by omega), wrap_of (x := 3 * h + 2 * l) (by omega) (by omega), wrap_of (x := 3 * h + 2 * l + 2) (by omega) (by omega),
      wrap_of (x := 4 * h) (by omega) (by omega), wrap_of (x := 3 * l) (by omega) (by omega), wrap_of (x := 4 * h + 3 * l) (by omega) (by omega), wrap_of (x := 4 * h + 3 * l + 2) (by omega) (by omega)]
    exact ev_pos b4 (ev_pos (by omega) ihh)
def od (k : Int) : Int := k * k + (k - 1) * (k - 1)
theorem od_le {a b : Int} (h0 : 1 ≤ a) (h : a ≤ b) : od a ≤ od b := by
  have h1 : a * a ≤ b * b := Int.mul_le_mul h h (by omega) (by omega)
  have h2 : (a - 1) * (a - 1) ≤ (b - 1) * (b - 1) := Int.mul_le_mul (by omega) (by omega) (by omega) (by omega)
  unfold od
  omega
theorem od_bound {k : Int} (h0 : 1 ≤ k) (h : k ≤ 3000000) : 0 ≤ k * k ∧ k * k ≤ 9000000000000 ∧ 0 ≤ (k - 1) * (k - 1) ∧ (k - 1) * (k - 1) ≤ 9000000000000 := by
  have h1 := mul_big (a := k) (b := k) (by omega) h (by omega) h
  have h2 := mul_big (a := k - 1) (b := k - 1) (m := 3000000) (n := 3000000) (by omega) (by omega) (by omega) (by omega)
  omega
theorem oceil_ex (L : Int) (h1 : 1 ≤ L) : ∃ s : Int, 1 ≤ s ∧ s ≤ L ∧ L * L ≤ od s ∧ (s = 1 ∨ od (s - 1) < L * L) := by
  have hL : L * L ≤ od L := by
    have : 0 ≤ (L - 1) * (L - 1) := Int.mul_nonneg (by omega) (by omega)
    unfold od
    omega
  obtain ⟨c, hc1, hc2⟩ := least_ex (fun c : Nat => L * L ≤ od ((c : Int) + 1)) (L.toNat - 1) (by show L * L ≤ od _; rw [show ((L.toNat - 1 : Nat) : Int) + 1 = L by omega]; exact hL)
  refine ⟨(c : Int) + 1, by omega, ?_, hc1, ?_⟩
  · by_cases z : (c : Int) + 1 ≤ L
    · exact z
    · exfalso
      refine hc2 (L.toNat - 1) (by omega) ?_
      show L * L ≤ od _
      rw [show ((L.toNat - 1 : Nat) : Int) + 1 = L by omega]
      exact hL
  · by_cases z : c = 0
    · exact .inl (by omega)
    · have := hc2 (c - 1) (by omega)
      have e : ((c - 1 : Nat) : Int) + 1 = (c : Int) + 1 - 1 := by omega
      rw [e] at this
      exact .inr (Int.not_le.mp this)
theorem oddImpl_l1 (m : Int) (xs : List (List Int)) (L : Int) (hL : 1 ≤ L ∧ L ≤ 1000000) (s : Int) (hs1 : 1 ≤ s) (hs2 : s ≤ L) (hs3 : L * L ≤ od s) (hs4 : s = 1 ∨ od (s - 1) < L * L) (r : List (List Int) × Bool)
    (h : Ev (fun k => if od s = L * L then (if xs.length < 5864062014805 then impl_BalancedOdd.l0 k m (xs ++ [[2 * s - 1, 2 * L - 1]]) s (wrap64 (L + 1)) else none) else impl_BalancedOdd.l0 k m xs s (wrap64 (L + 1))) r) :
    ∀ (d : Nat) (h0 : Int), 1 ≤ h0 → h0 + d = s → Ev (fun k => impl_BalancedOdd.l1 k m xs h0 L) r := by
  have hb := od_bound (k := L) hL.1 (by omega)
  intro d
  induction d with
  | zero =>
    intro h0 hp he
    have : h0 = s := by omega
    subst this
    have sb := od_bound (k := h0) hp (by omega)
    refine ev_succ ?_
    simp only [impl_BalancedOdd.l1]
    rw [wrap_of (x := h0 * h0) (by omega) (by omega), wrap_of (x := h0 - 1) (by omega) (by omega), wrap_of (x := (h0 - 1) * (h0 - 1)) (by omega) (by omega), wrap_of (x := h0 * h0 + (h0 - 1) * (h0 - 1)) (by omega) (by omega),
      wrap_of (x := L * L) (by omega) (by omega), wrap_of (x := 2 * h0) (by omega) (by omega), wrap_of (x := 2 * h0 - 1) (by omega) (by omega), wrap_of (x := 2 * L) (by omega) (by omega), wrap_of (x := 2 * L - 1) (by omega) (by omega)]
    exact ev_neg (by unfold od at hs3; omega) h
  | succ d ih =>
    intro h0 hp he
    have sb := od_bound (k := h0) hp (by omega)
    have hlt : od h0 < L * L := by
      have : od h0 ≤ od (s - 1) := od_le hp (by omega)
      omega
    refine ev_succ ?_
    simp only [impl_BalancedOdd.l1]
    rw [wrap_of (x := h0 * h0) (by omega) (by omega), wrap_of (x := h0 - 1) (by omega) (by omega), wrap_of (x := (h0 - 1) * (h0 - 1)) (by omega) (by omega), wrap_of (x := h0 * h0 + (h0 - 1) * (h0 - 1)) (by omega) (by omega),
      wrap_of (x := L * L) (by omega) (by omega), wrap_of (x := h0 + 1) (by omega) (by omega)]
    exact ev_pos hlt (ih (h0 + 1) (by omega) (by omega))
theorem oddImpl_loop (m : Int) (hm : 1 ≤ m ∧ m ≤ 1000000) (c : Nat) (h1 : m < 2 * (po c).2 - 1) (h2 : ∀ i, i < c → 2 * (po i).2 - 1 ≤ m) : ∀ (d : Nat) (L h : Int) (i : Nat), L + d = m + 1 → 1 ≤ L → i ≤ c → (∀ j, j < i → (po j).2 < L) → L ≤ (po i).2 → 1 ≤ h → (h = 1 ∨ od (h - 1) < L * L) →
    Ev (fun k => impl_BalancedOdd.l0 k m (ol i) h L) (ol c, true) := by
  have hc := o_small hm.2 h2
  intro d
  induction d with
  | zero =>
    intro L h i hd hL hi hj hLi h0 hh
    have : i = c := by
      by_cases z : i < c
      · have := h2 i z; omega
      · omega
    subst this
    refine ev_succ ?_
    simp only [impl_BalancedOdd.l0]
    rw [wrap_of (x := 2 * L) (by omega) (by omega), wrap_of (x := 2 * L - 1) (by omega) (by omega)]
    exact ev_neg (by omega) (ev_eq fun _ => rfl)
  | succ d ih =>
    intro L h i hd hL hi hj hLi h0 hh
    by_cases hend : 2 * L - 1 ≤ m
    rotate_left
    · have : i = c := by
        by_cases z : i < c
        · have := h2 i z; omega
        · omega
      subst this
      refine ev_succ ?_
      simp only [impl_BalancedOdd.l0]
      rw [wrap_of (x := 2 * L) (by omega) (by omega), wrap_of (x := 2 * L - 1) (by omega) (by omega)]
      exact ev_neg (by omega) (ev_eq fun _ => rfl)
    obtain ⟨s, s1, s2, s3, s4⟩ := oceil_ex L hL
    have hLL : L * L < (L + 1) * (L + 1) := by
      have : (L + 1) * (L + 1) = L * L + 2 * L + 1 := by grind
      omega
    have hs : h ≤ s := by
      rcases hh with rfl | hh
      · omega
      · by_cases z : h ≤ s
        · exact z
        · have : od s ≤ od (h - 1) := od_le s1 (by omega)
          omega
    refine ev_succ ?_
    simp only [impl_BalancedOdd.l0]
    rw [wrap_of (x := 2 * L) (by omega) (by omega), wrap_of (x := 2 * L - 1) (by omega) (by omega)]
    refine ev_pos hend ?_
    have hw : wrap64 (L + 1) = L + 1 := wrap_of (by omega) (by omega)
    obtain ⟨e, he⟩ : ∃ e : Nat, h + e = s := ⟨(s - h).toNat, by omega⟩
    refine oddImpl_l1 m (ol i) L ⟨hL, by omega⟩ s s1 s2 s3 s4 _ ?_ e h h0 he
    rw [hw]
    have hSi := po_od i
    have hnext : s = 1 ∨ od (s - 1) < (L + 1) * (L + 1) := by
      rcases s4 with q | q
      · exact .inl q
      · exact .inr (by omega)
    by_cases cq : od s = L * L
    · have hS : Od s L := ⟨by omega, by omega, cq⟩
      have hLe : L = (po i).2 := by
        by_cases z : i = 0
        · subst z
          have e : (po 0).2 = 1 := rfl
          omega
        · have hg := od_gap ((po (i - 1)).2.toNat + 1) (po (i - 1)).1 (po (i - 1)).2 s L (by omega) (po_od (i - 1)) hS (hj (i - 1) (by omega))
          have e : (po i).2 = 4 * (po (i - 1)).1 + 3 * (po (i - 1)).2 - 2 := by
            obtain ⟨j, rfl⟩ : ∃ j, i = j + 1 := ⟨i - 1, by omega⟩
            rfl
          omega
      have hse : s = (po i).1 := by
        have a1 := od_mono hS hSi (by omega)
        have a2 := od_mono hSi hS (by omega)
        omega
      refine ev_pos cq (ev_pos (by rw [ol_len]; omega) ?_)
      have hic : i < c := by
        by_cases z : i < c
        · exact z
        · have : i = c := by omega
          subst this
          omega
      have := ih (L + 1) s (i + 1) (by omega) (by omega) (by omega) (fun j hj2 => by
        by_cases z : j < i
        · have := hj j z; omega
        · have : j = i := by omega
          subst this; omega) (by have := po_lt i; omega) s1 hnext
      rw [ol_succ] at this
      rw [hse, hLe] at this ⊢
      exact this
    · refine ev_neg cq ?_
      refine ih (L + 1) s i (by omega) (by omega) hi (fun j hj2 => by have := hj j hj2; omega) ?_ s1 hnext
      by_cases z : L = (po i).2
      · exfalso
        apply cq
        obtain ⟨q1, q2, q3⟩ := hSi
        rw [← z] at q3
        have e1 : od (po i).1 = L * L := q3
        have a2 : s ≤ (po i).1 := by
          by_cases y : s ≤ (po i).1
          · exact y
          · rcases s4 with q | q
            · omega
            · have := od_le (a := (po i).1) (b := s - 1) (by omega) (by omega)
              omega
        have a3 := od_le s1 a2
        omega
      · omega
theorem odds_ok (m : Int) : ∃ (c : Nat) (b : Bool), Ev (fun k => impl_BalancedOdd.f k m) (ol c, b) ∧ Ev (fun k => spec_BalancedOdd.f k m) (ol c, b) ∧
    b = decide (1 ≤ m ∧ m ≤ 1000000) ∧ c ≤ 1000000 ∧ (b = true → ∀ i, i < c → 2 * (po i).2 - 1 ≤ m) := by
  by_cases h : 1 ≤ m ∧ m ≤ 1000000
  · obtain ⟨c, h1, h2⟩ := po_end m (by omega)
    refine ⟨c, true, ?_, ?_, (by simpa using h), o_small h.2 h2, fun _ => h2⟩
    · unfold impl_BalancedOdd.f
      refine ev_bind (isHouse_eq m) (ev_pos (by simpa using h) ?_)
      exact oddImpl_loop m h c h1 h2 m.toNat 1 1 0 (by omega) (by omega) (by omega) (fun j hj => by omega) (by decide) (by omega) (.inl rfl)
    · unfold spec_BalancedOdd.f
      refine ev_bind (hoMost_eq m) (ev_pos (by simpa using h) ?_)
      exact oddSpec_loop m h.2 c h1 h2 c 0 (by omega)
  · refine ⟨0, false, ?_, ?_, (by simpa using h), (by omega), fun z => by cases z⟩
    · unfold impl_BalancedOdd.f
      exact ev_bind (isHouse_eq m) (ev_neg (by simpa using h) (ev_eq fun _ => rfl))
    · unfold spec_BalancedOdd.f
      exact ev_bind (hoMost_eq m) (ev_neg (by simpa using h) (ev_eq fun _ => rfl))

/-! ### choices out of bytes: each of them is made -/
def Bytes (l : List Int) : Prop := ∀ x ∈ l, (Lit.int .u8 x).wf = true
theorem byte_range {l : List Int} (h : Bytes l) {i : Int} (h0 : 0 ≤ i) (h1 : i < (l.length : Int)) : 0 ≤ rd l i ∧ rd l i ≤ 255 := by
  have hm : rd l i ∈ l := by
    unfold rd
    rw [List.getD_eq_getElem?_getD, List.getElem?_eq_getElem (by omega)]
    exact List.getElem_mem _
  have := h _ hm
  have h2 := by simpa only [Lit.wf, Bool.and_eq_true, decide_eq_true_eq] using this
  exact ⟨h2.1, h2.2⟩
theorem and255 (x : Int) (h0 : 0 ≤ x) (h1 : x < 18446744073709551616) : 0 ≤ Go.bits .and .u64 x 255 ∧ Go.bits .and .u64 x 255 ≤ 255 := by
  obtain ⟨n, rfl⟩ : ∃ n : Nat, x = (n : Int) := ⟨x.toNat, by omega⟩
  have h := bits_and_u64_nat n 255 (by omega) (by omega)
  have h2 := Nat.and_le_right (n := n) (m := 255)
  rw [show ((255 : Nat) : Int) = 255 from rfl] at h
  rw [h]
  omega
theorem u64_range (x : Int) : 0 ≤ IntKind.u64.wrap x ∧ IntKind.u64.wrap x < 18446744073709551616 := by
  rw [IntKind.wrap_u64]; omega
theorem tail255 (x : Int) : ∃ v, wrap64 (Go.bits .and .u64 (IntKind.u64.wrap x / 1099511627776) 255) = v ∧ 0 ≤ v ∧ v ≤ 255 := by
  have h := u64_range x
  have h2 := and255 (IntKind.u64.wrap x / 1099511627776) (by omega) (by omega)
  exact ⟨_, wrap_of (by omega) (by omega), h2.1, h2.2⟩
theorem next_ok (l : List Int) (hl : Bytes l) (a s : Int) (h0 : 0 ≤ a) (h1 : a ≤ 1000000000000) : ∃ v s', spec_l1Cur_next.f l a s = some (v, a + 1, s') ∧ 0 ≤ v ∧ v ≤ 255 := by
  unfold spec_l1Cur_next.f
  have hw : wrap64 (a + 1) = a + 1 := wrap_of (by omega) (by omega)
  rw [hw]
  by_cases c : a < (l.length : Int)
  · have hb := byte_range hl h0 c
    rw [if_pos c, if_pos h0, if_pos (by omega), wrap_of (x := rd l a) (by omega) (by omega)]
    exact ⟨_, _, rfl, hb.1, hb.2⟩
  · rw [if_neg c, if_neg (by omega)]
    obtain ⟨v, hv, g⟩ := tail255 (IntKind.u64.wrap (IntKind.u64.wrap (s * 6364136223846793005)) + 1442695040888963407)
    rw [hv]
    exact ⟨v, _, rfl, g.1, g.2⟩
theorem tmod_range {x n : Int} (h0 : 0 ≤ x) (hn : 0 < n) : 0 ≤ Int.tmod x n ∧ Int.tmod x n < n := by
  rw [Int.tmod_eq_emod_of_nonneg h0]
  exact ⟨Int.emod_nonneg _ (by omega), Int.emod_lt_of_pos _ hn⟩
theorem pick_ok (l : List Int) (hl : Bytes l) (a s n : Int) (h0 : 0 ≤ a) (h1 : a ≤ 900000000000) : ∃ v a' s', spec_l1Cur_pick.f l a s n = some (v, a', s') ∧ 0 ≤ v ∧ (v < n ∨ v = 0) ∧ a ≤ a' ∧ a' ≤ a + 2 := by
  unfold spec_l1Cur_pick.f
  by_cases c : n ≤ 1
  · rw [if_pos c]
    exact ⟨0, a, s, rfl, Int.le_refl 0, .inr rfl, Int.le_refl a, by omega⟩
  · rw [if_neg c]
    obtain ⟨v, s1, hv, v0, v1⟩ := next_ok l hl a s h0 (by omega)
    rw [hv]
    simp only [Option.bind_some]
    by_cases c2 : n > 200
    · rw [if_pos c2]
      obtain ⟨u, s2, hu, u0, u1⟩ := next_ok l hl (a + 1) s1 (by omega) (by omega)
      rw [hu]
      simp only [Option.bind_some]
      rw [if_neg (by omega), wrap_of (x := v * 256) (by omega) (by omega), wrap_of (x := v * 256 + u) (by omega) (by omega)]
      have ht := tmod_range (x := v * 256 + u) (n := n) (by omega) (by omega)
      exact ⟨_, _, _, rfl, ht.1, .inl ht.2, by omega, by omega⟩
    · rw [if_neg c2, if_neg (by omega)]
      have ht := tmod_range (x := v) (n := n) v0 (by omega)
      exact ⟨_, _, _, rfl, ht.1, .inl ht.2, by omega, by omega⟩
theorem one_ok (l : List Int) (hl : Bytes l) (a s n : Int) (h0 : 0 ≤ a) (h1 : a ≤ 900000000000) : ∃ v a' s', spec_l1Cur_one.f l a s n = some (v, a', s') ∧ a ≤ a' ∧ a' ≤ a + 2 := by
  unfold spec_l1Cur_one.f
  obtain ⟨v, a', s', hv, _, _, g⟩ := pick_ok l hl a s n h0 h1
  rw [hv]
  exact ⟨_, a', s', rfl, g⟩
theorem among_ok (l : List Int) (hl : Bytes l) (a s : Int) (m : List Int) (hm : 0 < m.length) (h0 : 0 ≤ a) (h1 : a ≤ 900000000000) : ∃ v a' s', spec_l1Cur_among.f l a s m = some (v, a', s') ∧ v ∈ m ∧ a ≤ a' ∧ a' ≤ a + 2 := by
  unfold spec_l1Cur_among.f
  obtain ⟨v, a', s', hv, v0, v1, g⟩ := pick_ok l hl a s (m.length : Int) h0 h1
  rw [hv]
  simp only [Option.bind_some]
  have hlt : v < (m.length : Int) := by rcases v1 with h | h <;> omega
  rw [if_pos v0, if_pos hlt]
  refine ⟨_, a', s', rfl, ?_, g⟩
  unfold rd
  rw [List.getD_eq_getElem?_getD, List.getElem?_eq_getElem (by omega)]
  exact List.getElem_mem _

/-! ### houses drawn -/
theorem houseNumber_ok (l : List Int) (hl : Bytes l) (a s : Int) (h0 : 0 ≤ a) (h1 : a ≤ 800000000000) : ∃ v a' s', spec_l1Cur_houseNumber.f l a s = some (v, a', s') ∧ a ≤ a' ∧ a' ≤ a + 10 := by
  unfold spec_l1Cur_houseNumber.f
  obtain ⟨x, a1, s1, hx, _, _, g1, g2⟩ := pick_ok l hl a s 9 h0 (by omega)
  rw [hx]
  simp only [Option.bind_some]
  by_cases c : x = 0
  · rw [if_pos c]
    obtain ⟨y, a2, s2, hy, _, e1, e2⟩ := among_ok l hl a1 s1 [(-1), 0, 1, 8, 49, 999999, 1000000, 1000001, 4611686018427387904] (by decide) (by omega) (by omega)
    rw [hy]
    exact ⟨_, a2, s2, rfl, by omega, by omega⟩
  · rw [if_neg c]
    by_cases c1 : x = 1
    · rw [if_pos c1]
      obtain ⟨y, a2, s2, hy, _, _, e1, e2⟩ := pick_ok l hl a1 s1 250 (by omega) (by omega)
      rw [hy]
      simp only [Option.bind_some]
      obtain ⟨z, a3, s3, hz, _, _, f1, f2⟩ := pick_ok l hl a2 s2 250 (by omega) (by omega)
      rw [hz]
      exact ⟨_, a3, s3, rfl, by omega, by omega⟩
    · rw [if_neg c1]
      obtain ⟨y, a2, s2, hy, _, _, e1, e2⟩ := pick_ok l hl a1 s1 60 (by omega) (by omega)
      rw [hy]
      exact ⟨_, a2, s2, rfl, by omega, by omega⟩
theorem least_def (a b : Int) : ∃ v, spec_l1Least.f a b = some v := by
  unfold spec_l1Least.f; split <;> exact ⟨_, rfl⟩
theorem most_def (a b : Int) : ∃ v, spec_l1Most.f a b = some v := by
  unfold spec_l1Most.f; split <;> exact ⟨_, rfl⟩
theorem drawStreets_ok (l : List Int) (hl : Bytes l) : ∃ v, spec_DrawBalancedStreets.f l = some v := by
  obtain ⟨v, a, s, h, _⟩ := houseNumber_ok l hl 0 0 (by omega) (by omega)
  unfold spec_DrawBalancedStreets.f
  rw [h]
  exact ⟨_, rfl⟩

theorem street_j (l : List Int) (hl : Bytes l) (f a s : Int) (h0 : 0 ≤ a) (h1 : a ≤ 800000000000) : ∃ v w a' s', Ev (fun k => spec_l1Cur_street.j0 k f l a s) (v, w, a', s') ∧ a ≤ a' ∧ a' ≤ a + 10 := by
  obtain ⟨x, a1, s1, hx, g1, g2⟩ := one_ok l hl a s 6 h0 (by omega)
  by_cases c : x = true
  · obtain ⟨y, a2, s2, hy, _, e1, e2⟩ := among_ok l hl a1 s1 [1, 8, 49, 288, 1681, 57121] (by decide) (by omega) (by omega)
    refine ⟨1, y, a2, s2, ev_succ ?_, by omega, by omega⟩
    simp only [spec_l1Cur_street.j0]
    rw [hx]
    simp only [Option.bind_some]
    exact ev_pos c (ev_bind hy (ev_eq fun _ => rfl))
  · obtain ⟨t, ht⟩ := least_def f 2000000
    obtain ⟨y, a2, s2, hy, _, _, e1, e2⟩ := pick_ok l hl a1 s1 60 (by omega) (by omega)
    obtain ⟨z, a3, s3, hz, _, _, f1, f2⟩ := pick_ok l hl a2 s2 9 (by omega) (by omega)
    refine ⟨f, wrap64 (wrap64 (t + y) - wrap64 (Int.tdiv z 8)), a3, s3, ev_succ ?_, by omega, by omega⟩
    simp only [spec_l1Cur_street.j0]
    rw [hx]
    simp only [Option.bind_some]
    exact ev_neg c (ev_bind ht (ev_bind hy (ev_bind hz (ev_eq fun _ => rfl))))
theorem street_ok (l : List Int) (hl : Bytes l) (a s : Int) (h0 : 0 ≤ a) (h1 : a ≤ 700000000000) : ∃ v w a' s', Ev (fun k => spec_l1Cur_street.f k l a s) (v, w, a', s') ∧ a ≤ a' ∧ a' ≤ a + 30 := by
  obtain ⟨f, a1, s1, hf, g1, g2⟩ := houseNumber_ok l hl a s h0 (by omega)
  obtain ⟨x, a2, s2, hx, g3, g4⟩ := one_ok l hl a1 s1 2 (by omega) (by omega)
  by_cases c : x = true
  · obtain ⟨y, a3, s3, hy, _, _, e1, e2⟩ := pick_ok l hl a2 s2 5 (by omega) (by omega)
    obtain ⟨v, w, a4, s4, hv, e3, e4⟩ := street_j l hl (wrap64 (1 + y)) a3 s3 (by omega) (by omega)
    refine ⟨v, w, a4, s4, ?_, by omega, by omega⟩
    unfold spec_l1Cur_street.f
    exact ev_bind hf (ev_bind hx (ev_pos c (ev_bind hy hv)))
  · obtain ⟨v, w, a4, s4, hv, e3, e4⟩ := street_j l hl f a2 s2 (by omega) (by omega)
    refine ⟨v, w, a4, s4, ?_, by omega, by omega⟩
    unfold spec_l1Cur_street.f
    exact ev_bind hf (ev_bind hx (ev_neg c hv))
theorem drawBalanced_ok (l : List Int) (hl : Bytes l) : ∃ v w, Ev (fun k => spec_DrawBalancedHouse.f k l) (v, w) := by
  obtain ⟨v, w, a, s, h, _⟩ := street_ok l hl 0 0 (by omega) (by omega)
  refine ⟨v, w, ?_⟩
  unfold spec_DrawBalancedHouse.f
  exact Ev.bind h (ev_eq fun _ => rfl)
theorem drawLeft_ok (l : List Int) (hl : Bytes l) : ∃ v w x, Ev (fun k => spec_DrawSumLeft.f k l) (v, w, x) := by
  obtain ⟨v, w, a, s, h, g1, g2⟩ := street_ok l hl 0 0 (by omega) (by omega)
  obtain ⟨t, ht⟩ := most_def 1 (wrap64 ((wrap64 (w - v)) + 2))
  obtain ⟨u, hu⟩ := least_def 60 t
  obtain ⟨x, a1, s1, hx, _, _, e1, e2⟩ := pick_ok l hl a s u (by omega) (by omega)
  obtain ⟨y, a2, s2, hy, _, _, e3, e4⟩ := pick_ok l hl a1 s1 9 (by omega) (by omega)
  refine ⟨v, w, wrap64 (wrap64 (v + x) - wrap64 (Int.tdiv y 8)), ?_⟩
  · unfold spec_DrawSumLeft.f
    exact Ev.bind h (ev_bind ht (ev_bind hu (ev_bind hx (ev_bind hy (ev_eq fun _ => rfl)))))
theorem drawSum_ok (l : List Int) (hl : Bytes l) : ∃ v w x, Ev (fun k => spec_DrawSumOfHouses.f k l) (v, w, x) := by
  obtain ⟨v, w, a, s, h, g1, g2⟩ := street_ok l hl 0 0 (by omega) (by omega)
  obtain ⟨x, a1, s1, hx, _, e1, e2⟩ := among_ok l hl a s [1, 2, 2, 3, 5, 10, 1000000, 1000001, 0] (by decide) (by omega) (by omega)
  refine ⟨v, w, x, ?_⟩
  · unfold spec_DrawSumOfHouses.f
    exact Ev.bind h (ev_bind hx (ev_eq fun _ => rfl))

/-! ### lists told the same; the loops of the law -/
theorem iSame_loop (l l' : List Int) (e : l' = l) (hl : l.length ≤ 1000000) : ∀ (d i : Nat), i + d = l.length → Ev (fun k => laws_iSame.l0 k l l' (l.length : Int) (i : Int)) true := by
  have hll : l'.length = l.length := by rw [e]
  intro d
  induction d with
  | zero =>
    intro i hi
    refine ev_succ ?_
    simp only [laws_iSame.l0]
    exact ev_neg (by omega) (ev_eq fun _ => rfl)
  | succ d ih =>
    intro i hi
    refine ev_succ ?_
    simp only [laws_iSame.l0]
    rw [wrap_nat (i := i) (by omega)]
    exact ev_pos (by omega) (ev_pos (by omega) (ev_pos (by omega) (ev_pos (by omega) (ev_pos (by rw [e]) (ih (i + 1) (by omega))))))
theorem iSame_ev (l : List Int) (hl : l.length ≤ 1000000) : Ev (fun k => laws_iSame.f k l l) true := by
  have := iSame_loop l l rfl hl l.length 0 (by omega)
  unfold laws_iSame.f
  exact ev_pos rfl this
theorem iRows_loop (l l' : List (List Int)) (e : l' = l) (hl : l.length ≤ 1000000) (hr : ∀ i : Nat, i < l.length → (rd_L2 l (i : Int)).length ≤ 1000000) : ∀ (d i : Nat), i + d = l.length → Ev (fun k => laws_iRows.l0 k l l' (l.length : Int) (i : Int)) true := by
  have hll : l'.length = l.length := by rw [e]
  intro d
  induction d with
  | zero =>
    intro i hi
    refine ev_succ ?_
    simp only [laws_iRows.l0]
    exact ev_neg (by omega) (ev_eq fun _ => rfl)
  | succ d ih =>
    intro i hi
    refine ev_succ ?_
    simp only [laws_iRows.l0]
    rw [wrap_nat (i := i) (by omega)]
    have hs : Ev (fun k => laws_iSame.f k (rd_L2 l (i : Int)) (rd_L2 l' (i : Int))) true := by rw [e]; exact iSame_ev _ (hr i (by omega))
    exact ev_pos (by omega) (ev_pos (by omega) (ev_pos (by omega) (ev_pos (by omega) (Ev.bind hs (ev_pos rfl (ih (i + 1) (by omega)))))))
theorem iRows_ev (l : List (List Int)) (hl : l.length ≤ 1000000) (hr : ∀ i : Nat, i < l.length → (rd_L2 l (i : Int)).length ≤ 1000000) : Ev (fun k => laws_iRows.f k l l) true := by
  have := iRows_loop l l rfl hl hr l.length 0 (by omega)
  unfold laws_iRows.f
  exact ev_pos rfl this
theorem iHas_loop (l : List Int) (a : Int) (hl : l.length ≤ 1000000) (b : Bool) : ∀ (d i : Nat), i + d = l.length → (b = true ↔ ∃ j : Nat, i ≤ j ∧ j < l.length ∧ rd l (j : Int) = a) → Ev (fun k => laws_iHas.l0 k a l (l.length : Int) (i : Int)) b := by
  intro d
  induction d with
  | zero =>
    intro i hi hb
    have : b = false := by
      cases b with
      | false => rfl
      | true =>
        obtain ⟨j, h1, h2, _⟩ := hb.mp rfl
        omega
    subst this
    refine ev_succ ?_
    simp only [laws_iHas.l0]
    exact ev_neg (by omega) (ev_eq fun _ => rfl)
  | succ d ih =>
    intro i hi hb
    refine ev_succ ?_
    simp only [laws_iHas.l0]
    rw [wrap_nat (i := i) (by omega)]
    refine ev_pos (by omega) (ev_pos (by omega) (ev_pos (by omega) ?_))
    by_cases c : rd l (i : Int) = a
    · have : b = true := hb.mpr ⟨i, Nat.le_refl _, by omega, c⟩
      subst this
      exact ev_pos c (ev_eq fun _ => rfl)
    · refine ev_neg c (ih (i + 1) (by omega) (hb.trans ⟨?_, ?_⟩))
      · rintro ⟨j, h1, h2, h3⟩
        refine ⟨j, ?_, h2, h3⟩
        by_cases z : j = i
        · subst z; exact absurd h3 c
        · omega
      · rintro ⟨j, h1, h2, h3⟩
        exact ⟨j, by omega, h2, h3⟩
theorem iHas_ev (l : List Int) (a : Int) (hl : l.length ≤ 1000000) (b : Bool) (hb : b = true ↔ ∃ j : Nat, j < l.length ∧ rd l (j : Int) = a) : Ev (fun k => laws_iHas.f k l a) b := by
  unfold laws_iHas.f
  exact iHas_loop l a hl b l.length 0 (by omega) (hb.trans ⟨fun ⟨j, h⟩ => ⟨j, Nat.zero_le _, h⟩, fun ⟨j, _, h⟩ => ⟨j, h⟩⟩)
theorem sq_in {h n : Int} (e : Sq h n) : ∃ i, n = (ps i).2 := by
  have h1 := e.2.1
  obtain ⟨c, hc1, hc2⟩ := least_ex (fun c => n ≤ (ps c).2) n.toNat (by have := ps_big n.toNat; show n ≤ _; omega)
  refine ⟨c, ?_⟩
  have hc1' : n ≤ (ps c).2 := hc1
  by_cases z : c = 0
  · subst z
    have e : (ps 0).2 = 1 := rfl
    omega
  · have h2 : ¬ n ≤ (ps (c - 1)).2 := hc2 (c - 1) (by omega)
    have hg := sq_gap ((ps (c - 1)).2.toNat + 1) (ps (c - 1)).1 (ps (c - 1)).2 h n (by omega) (ps_sq (c - 1)) e (by omega)
    have e : (ps c).2 = 4 * (ps (c - 1)).1 + 3 * (ps (c - 1)).2 + 1 := by
      obtain ⟨j, rfl⟩ : ∃ j, c = j + 1 := ⟨c - 1, by omega⟩
      rfl
    omega
theorem sq_tri {h n : Int} (e : Sq h n) : h * h = tri n + tri (1 - 1) := by
  obtain ⟨_, _, e⟩ := e
  have t := tri_two n
  have z : tri (1 - 1) = 0 := rfl
  have : n * (n + 1) = n * n + n := by grind
  omega
theorem bal_ps (i : Nat) (hb : (ps i).2 ≤ 1000000) : Ev (fun k => impl_BalancedHouse.f k 1 (ps i).2) ((ps i).1, true) := by
  have h := ps_sq i
  have h1 := h.1
  have h2 := h.2.1
  obtain ⟨o, e1, _, _, e4⟩ := balImpl 1 (ps i).2
  rw [e4 (ps i).1 ⟨Int.le_refl 1, by omega, hb⟩ (by omega) (sq_tri h)] at e1
  exact e1
theorem bal_has (m : Int) (c : Nat) (hm : m ≤ 1000000) (h1 : m < (ps c).2) (h2 : ∀ i, i < c → (ps i).2 ≤ m) (n : Int) (n1 : 1 ≤ n) (n2 : n ≤ m) : ∃ o, Ev (fun k => impl_BalancedHouse.f k 1 n) o ∧ Ev (fun k => laws_iHas.f k (sq c) n) o.2 := by
  obtain ⟨o, e1, _, e3, e4⟩ := balImpl 1 n
  have hc := c_small hm h2
  refine ⟨o, e1, iHas_ev (sq c) n (by rw [sq_len]; omega) o.2 ⟨fun ho => ?_, ?_⟩⟩
  · rcases e3 with e3 | ⟨h, e3, f1, f2, f3, f4⟩
    · rw [e3] at ho; cases ho
    · have hS : Sq h n := by
        refine ⟨by omega, by omega, ?_⟩
        have t := tri_two n
        have z : tri (1 - 1) = 0 := rfl
        have : n * (n + 1) = n * n + n := by grind
        omega
      obtain ⟨i, hi⟩ := sq_in hS
      have hic : i < c := by
        by_cases z : i < c
        · exact z
        · have := ps_le (i := c) (j := i) (by omega); omega
      exact ⟨i, by rw [sq_len]; exact hic, by rw [sq_rd hic, hi]⟩
  · rintro ⟨j, hj1, hj2⟩
    rw [sq_len] at hj1
    rw [sq_rd hj1] at hj2
    have hS := ps_sq j
    rw [hj2] at hS
    rw [e4 (ps j).1 ⟨Int.le_refl 1, n1, by omega⟩ (by have := hS.1; omega) (sq_tri hS)]

theorem tmod2 {x : Int} (h0 : 0 ≤ x) : Int.tmod x 2 = x % 2 := Int.tmod_eq_emod_of_nonneg h0

/-! ### the law's own steps -/
theorem sumH_tail {a b s : Int} (h : St a b) (hs : 1 ≤ s) (hb : a + s ≤ b) : sumH (a + s) b s + a = sumH a b s := by
  unfold sumH
  have e : (b - (a + s)) / s = (b - a) / s - 1 := by
    rw [show b - (a + s) = (b - a) + (-1) * s by omega, Int.add_mul_ediv_right _ _ (by omega)]
    omega
  rw [e]
  generalize (b - a) / s = q
  have t := tri_step (q - 1)
  rw [show q - 1 + 1 = q by omega] at t ⊢
  rw [t]
  grind
theorem j8_ok (a b h a' b' s : Int) : Ev (fun k => laws_FnHousesBalance.j8 k a b h (leftO a b h).1 (leftO a b h).2 (rightO a b h).1 a' b' s (sumO a' b' s).1 (sumO a' b' s).2) true := by
  have tl : Ev (fun k => if (sumO a' b' s).2 = true then (if (wrap64 (a' + s)) ≤ b' then ((impl_SumOfHouses.f (wrap64 (a' + s)) b' s).bind fun bt433 => (if bt433.2 = true then (if (wrap64 (bt433.1 + a')) = (sumO a' b' s).1 then (some true) else (some false)) else (some false))) else (some true)) else (some true)) true := by
    by_cases c : St a' b' ∧ 1 ≤ s ∧ s ≤ 1000000
    · obtain ⟨hst, hs1, hs2⟩ := id c
      obtain ⟨c1, c2, c3⟩ := id hst
      have e1 : sumO a' b' s = (sumH a' b' s, true) := by unfold sumO; rw [if_pos c]
      rw [e1, wrap_of (x := a' + s) (by omega) (by omega)]
      refine ev_pos rfl ?_
      by_cases c4 : a' + s ≤ b'
      · have hst2 : St (a' + s) b' := ⟨by omega, by omega, c3⟩
        have e2 : sumO (a' + s) b' s = (sumH (a' + s) b' s, true) := by unfold sumO; rw [if_pos ⟨hst2, hs1, hs2⟩]
        have e3 := sumH_tail hst hs1 c4
        obtain ⟨b1, b2, b3, b4⟩ := sumH_bound hst2 hs1
        refine ev_pos c4 (ev_bind (implSum_eq (a' + s) b' s) ?_)
        rw [e2]
        refine ev_pos rfl (ev_pos ?_ (ev_eq fun _ => rfl))
        show wrap64 (sumH (a' + s) b' s + a') = sumH a' b' s
        have e4 : sumH (a' + s) b' s = ((b' - (a' + s)) / s + 1) * (a' + s) + s * tri ((b' - (a' + s)) / s) := rfl
        rw [wrap_of (by omega) (by omega)]
        exact e3
      · exact ev_neg c4 (ev_eq fun _ => rfl)
    · have e1 : sumO a' b' s = (0, false) := by unfold sumO; rw [if_neg c]
      rw [e1]
      exact ev_neg (by decide) (ev_eq fun _ => rfl)
  refine ev_succ ?_
  simp only [laws_FnHousesBalance.j8]
  by_cases c : Sh a b h
  · obtain ⟨hst, c1, c2⟩ := id c
    obtain ⟨d1, d2, d3⟩ := id hst
    have e1 : leftO a b h = (tri (h - 1) - tri (a - 1), true) := by unfold leftO; rw [if_pos c]
    have e2 : rightO a b h = (tri b - tri h, true) := by unfold rightO; rw [if_pos c]
    have e3 : sumO a b 1 = (tri b - tri (a - 1), true) := by unfold sumO; rw [if_pos ⟨hst, by omega, by omega⟩, sumH_one]
    have t := tri_step (h - 1)
    rw [show h - 1 + 1 = h by omega] at t
    have tb := tri_bound (n := b) (by omega) (by omega)
    have ta := tri_bound (n := a - 1) (by omega) (by omega)
    have th := tri_bound (n := h) (by omega) (by omega)
    have th1 := tri_bound (n := h - 1) (by omega) (by omega)
    rw [e1, e2]
    refine ev_pos rfl (ev_bind (implSum_eq a b 1) ?_)
    rw [e3]
    refine ev_pos rfl (ev_pos ?_ tl)
    show wrap64 (wrap64 (tri (h - 1) - tri (a - 1) + h) + (tri b - tri h)) = tri b - tri (a - 1)
    rw [wrap_of (x := tri (h - 1) - tri (a - 1) + h) (by omega) (by omega), wrap_of (by omega) (by omega)]
    omega
  · have e1 : leftO a b h = (0, false) := by unfold leftO; rw [if_neg c]
    rw [e1]
    exact ev_neg (by decide) tl
theorem sumH_odd1 (k : Int) : sumH 1 (2 * k - 1 - 2) 2 = (k - 1) * (k - 1) := by
  unfold sumH
  have e : (2 * k - 1 - 2 - 1) / 2 = k - 2 := by omega
  rw [e]
  have t := tri_two (k - 2)
  rw [t]
  grind
theorem sumH_odd2 (k n : Int) : sumH (2 * k - 1 + 2) (2 * n - 1) 2 = n * n - k * k := by
  unfold sumH
  have e : (2 * n - 1 - (2 * k - 1 + 2)) / 2 = n - k - 1 := by omega
  rw [e]
  have t := tri_two (n - k - 1)
  rw [t]
  grind
theorem odd_lt {k n : Int} (e : Od k n) (hk : 2 ≤ k) : k < n := by
  obtain ⟨a, b, e⟩ := e
  by_cases c : k < n
  · exact c
  · exfalso
    have : n * n ≤ k * k := Int.mul_le_mul (by omega) (by omega) (by omega) (by omega)
    have : 1 * 1 ≤ (k - 1) * (k - 1) := Int.mul_le_mul (by omega) (by omega) (by omega) (by omega)
    omega
theorem row_len (x y : Int) : (([x, y] : List Int).length : Int) = 2 := rfl
theorem row_0 (x y : Int) : rd [x, y] 0 = x := rfl
theorem row_1 (x y : Int) : rd [x, y] 1 = y := rfl
theorem l2_ok (m : Int) (hm : m ≤ 1000000) (c : Nat) (hc : c ≤ 1000000) (h2 : ∀ i, i < c → 2 * (po i).2 - 1 ≤ m) (a b h a' b' s : Int) : ∀ (d i : Nat), i + d = c →
    Ev (fun k => laws_FnHousesBalance.l2 k m (ol c) a b h (leftO a b h).1 (leftO a b h).2 (rightO a b h).1 a' b' s (sumO a' b' s).1 (sumO a' b' s).2 (ol c) (c : Int) (i : Int)) true := by
  intro d
  induction d with
  | zero =>
    intro i hi
    refine ev_succ ?_
    simp only [laws_FnHousesBalance.l2]
    exact ev_neg (by omega) (j8_ok a b h a' b' s)
  | succ d ih =>
    intro i hi
    have ihh := ih (i + 1) (by omega)
    have hic : i < c := by omega
    have hS := po_od i
    have p1 := hS.1
    have p2 := hS.2.1
    have p3 := h2 i hic
    have pkn := od_kn hS
    have tail : Ev (fun k => if 2 * (po i).1 - 1 > 1 then ((impl_SumOfHouses.f 1 (wrap64 ((2 * (po i).1 - 1) - 2)) 2).bind fun bt413 => (if 2 * (po i).2 - 1 > 2 * (po i).1 - 1 then ((impl_SumOfHouses.f (wrap64 ((2 * (po i).1 - 1) + 2)) (2 * (po i).2 - 1) 2).bind fun bt419 => (if bt419.2 = true then (if bt413.2 = true then (if bt413.1 = bt419.1 then (laws_FnHousesBalance.l2 k m (ol c) a b h (leftO a b h).1 (leftO a b h).2 (rightO a b h).1 a' b' s (sumO a' b' s).1 (sumO a' b' s).2 (ol c) (c : Int) (wrap64 ((i : Int) + 1))) else (some false)) else (some false)) else (some false))) else (if bt413.2 = true then (if bt413.1 = 0 then (laws_FnHousesBalance.l2 k m (ol c) a b h (leftO a b h).1 (leftO a b h).2 (rightO a b h).1 a' b' s (sumO a' b' s).1 (sumO a' b' s).2 (ol c) (c : Int) (wrap64 ((i : Int) + 1))) else (some false)) else (some false)))) else (laws_FnHousesBalance.l2 k m (ol c) a b h (leftO a b h).1 (leftO a b h).2 (rightO a b h).1 a' b' s (sumO a' b' s).1 (sumO a' b' s).2 (ol c) (c : Int) (wrap64 ((i : Int) + 1)))) true := by
      rw [wrap_nat (i := i) (by omega)]
      by_cases k2 : 2 ≤ (po i).1
      · have hlt := odd_lt hS k2
        rw [wrap_of (x := 2 * (po i).1 - 1 - 2) (by omega) (by omega), wrap_of (x := 2 * (po i).1 - 1 + 2) (by omega) (by omega)]
        have e1 : sumO 1 (2 * (po i).1 - 1 - 2) 2 = (((po i).1 - 1) * ((po i).1 - 1), true) := by
          unfold sumO
          rw [if_pos ⟨⟨by omega, by omega, by omega⟩, by omega, by omega⟩, sumH_odd1]
        have e2 : sumO (2 * (po i).1 - 1 + 2) (2 * (po i).2 - 1) 2 = ((po i).2 * (po i).2 - (po i).1 * (po i).1, true) := by
          unfold sumO
          rw [if_pos ⟨⟨by omega, by omega, by omega⟩, by omega, by omega⟩, sumH_odd2]
        refine ev_pos (by omega) (ev_bind (implSum_eq _ _ _) (ev_pos (by omega) (ev_bind (implSum_eq _ _ _) ?_)))
        rw [e1, e2]
        refine ev_pos rfl (ev_pos rfl (ev_pos ?_ ihh))
        have := hS.2.2
        show ((po i).1 - 1) * ((po i).1 - 1) = (po i).2 * (po i).2 - (po i).1 * (po i).1
        omega
      · exact ev_neg (by omega) ihh
    refine ev_succ ?_
    simp only [laws_FnHousesBalance.l2]
    rw [ol_rd hic, row_len, row_0, row_1, ol_len, tmod2 (x := 2 * (po i).1 - 1) (by omega), tmod2 (x := 2 * (po i).2 - 1) (by omega)]
    refine ev_pos (by omega) (ev_pos (by omega) (ev_pos (by omega) (ev_pos rfl (ev_pos (by omega) (ev_pos (by omega) (ev_pos (by omega) (ev_pos (by omega) (ev_neg (by omega) ?_))))))))
    by_cases z : i = 0
    · exact ev_neg (by omega) tail
    · have e : wrap64 ((i : Int) - 1) = ((i - 1 : Nat) : Int) := by rw [wrap_of (by omega) (by omega)]; omega
      have hlt := po_lt (i - 1)
      rw [show i - 1 + 1 = i by omega] at hlt
      rw [e, ol_rd (c := c) (i := i - 1) (by omega), row_len, row_1]
      exact ev_pos (by omega) (ev_pos (by omega) (ev_pos (by omega) (ev_pos (by omega) (ev_neg (by omega) tail))))

/-! ### the other loops, and what comes ahead of them -/
theorem l1_ok (m : Int) (hm : m ≤ 1000000) (c : Nat) (g1 : m < (ps c).2) (g2 : ∀ i, i < c → (ps i).2 ≤ m) (o : Nat) (ho : o ≤ 1000000) (h2 : ∀ i, i < o → 2 * (po i).2 - 1 ≤ m) (a b h a' b' s : Int) : ∀ (d : Nat) (n : Int), 1 ≤ n → (61 - n).toNat = d →
    Ev (fun k => laws_FnHousesBalance.l1 k m (ol o) (sq c) a b h (leftO a b h).1 (leftO a b h).2 (rightO a b h).1 a' b' s (sumO a' b' s).1 (sumO a' b' s).2 n) true := by
  have hend : Ev (fun k => laws_FnHousesBalance.j6 k m (ol o) a b h (leftO a b h).1 (leftO a b h).2 (rightO a b h).1 a' b' s (sumO a' b' s).1 (sumO a' b' s).2) true := by
    have := l2_ok m hm o ho h2 a b h a' b' s o 0 (by omega)
    refine ev_succ ?_
    simp only [laws_FnHousesBalance.j6]
    rw [ol_len]
    exact this
  intro d
  induction d with
  | zero =>
    intro n n1 hd
    refine ev_succ ?_
    simp only [laws_FnHousesBalance.l1]
    by_cases z : n ≤ m
    · exact ev_pos z (ev_neg (by omega) hend)
    · exact ev_neg z hend
  | succ d ih =>
    intro n n1 hd
    refine ev_succ ?_
    simp only [laws_FnHousesBalance.l1]
    by_cases z : n ≤ m
    · obtain ⟨r, e1, e2⟩ := bal_has m c hm g1 g2 n n1 z
      rw [wrap_of (x := n + 1) (by omega) (by omega)]
      exact ev_pos z (ev_pos (by omega) (Ev.bind e1 (Ev.bind e2 (ev_neg (by simp) (ih (n + 1) (by omega) (by omega))))))
    · exact ev_neg z hend
theorem l0_ok (m : Int) (hm : m ≤ 1000000) (c : Nat) (g1 : m < (ps c).2) (g2 : ∀ i, i < c → (ps i).2 ≤ m) (o : Nat) (ho : o ≤ 1000000) (h2 : ∀ i, i < o → 2 * (po i).2 - 1 ≤ m) (a b h a' b' s : Int) : ∀ (d i : Nat), i + d = c →
    Ev (fun k => laws_FnHousesBalance.l0 k m (sl c) (ol o) (sq c) a b h (leftO a b h).1 (leftO a b h).2 (rightO a b h).1 a' b' s (sumO a' b' s).1 (sumO a' b' s).2 (sl c) (c : Int) (i : Int)) true := by
  have hc := c_small hm g2
  intro d
  induction d with
  | zero =>
    intro i hi
    refine ev_succ ?_
    simp only [laws_FnHousesBalance.l0]
    exact ev_neg (by omega) (l1_ok m hm c g1 g2 o ho h2 a b h a' b' s 60 1 (by omega) (by omega))
  | succ d ih =>
    intro i hi
    have ihh := ih (i + 1) (by omega)
    have hic : i < c := by omega
    have hS := ps_sq i
    have p2 := g2 i hic
    have hb := bal_ps i (by omega)
    have tail : Ev (fun k => (impl_BalancedHouse.f k 1 (ps i).2).bind fun bt386 => (if bt386.2 = true then (if (0 : Int) < 2 then (if bt386.1 = (ps i).1 then (laws_FnHousesBalance.l0 k m (sl c) (ol o) (sq c) a b h (leftO a b h).1 (leftO a b h).2 (rightO a b h).1 a' b' s (sumO a' b' s).1 (sumO a' b' s).2 (sl c) (c : Int) (wrap64 ((i : Int) + 1))) else (some false)) else (none)) else (some false))) true := by
      rw [wrap_nat (i := i) (by omega)]
      exact Ev.bind hb (ev_pos rfl (ev_pos (by omega) (ev_pos rfl ihh)))
    refine ev_succ ?_
    simp only [laws_FnHousesBalance.l0]
    rw [sl_rd hic, sq_rd hic, row_len, row_0, row_1, sl_len, sq_len]
    refine ev_pos (by omega) (ev_pos (by omega) (ev_pos (by omega) (ev_pos rfl (ev_pos (by omega) (ev_pos (by omega) (ev_pos rfl (ev_neg (by omega) ?_)))))))
    by_cases z : i = 0
    · exact ev_neg (by omega) tail
    · have e : wrap64 ((i : Int) - 1) = ((i - 1 : Nat) : Int) := by rw [wrap_of (by omega) (by omega)]; omega
      have hlt := ps_lt (i - 1)
      rw [show i - 1 + 1 = i by omega] at hlt
      rw [e, sl_rd (c := c) (i := i - 1) (by omega), row_len, row_1]
      exact ev_pos (by omega) (ev_pos (by omega) (ev_pos (by omega) (ev_pos (by omega) (ev_neg (by omega) tail))))
theorem left_right (a b h : Int) : (leftO a b h).2 = (rightO a b h).2 := by
  unfold leftO rightO; split <;> rfl
theorem sl_rows (c : Nat) : ∀ i : Nat, i < (sl c).length → (rd_L2 (sl c) (i : Int)).length ≤ 1000000 := by
  intro i hi
  rw [sl_len] at hi
  rw [sl_rd hi]
  show 2 ≤ 1000000
  omega
theorem ol_rows (c : Nat) : ∀ i : Nat, i < (ol c).length → (rd_L2 (ol c) (i : Int)).length ≤ 1000000 := by
  intro i hi
  rw [ol_len] at hi
  rw [ol_rd hi]
  show 2 ≤ 1000000
  omega
theorem j3_ok (l : List Int) (hl : Bytes l) : Ev (fun k => laws_FnHousesBalance.j3 k l false) true := by
  obtain ⟨m, hm⟩ := drawStreets_ok l hl
  obtain ⟨a, b, h, hs⟩ := drawLeft_ok l hl
  obtain ⟨a', b', s, hs'⟩ := drawSum_ok l hl
  obtain ⟨c, t, e1, e2, e3, e4, e5, e6, e7⟩ := streets_ok m
  obtain ⟨o, t', f1, f2, f3, f4, f5⟩ := odds_ok m
  have ht : t' = t := by rw [f3, e5]
  subst ht
  have r1 := iRows_ev (sl c) (by rw [sl_len]; omega) (sl_rows c)
  have r2 := iRows_ev (ol o) (by rw [ol_len]; omega) (ol_rows o)
  have r3 := iSame_ev (sq c) (by rw [sq_len]; omega)
  refine ev_succ ?_
  simp only [laws_FnHousesBalance.j3]
  refine ev_neg (by decide) (ev_bind hm (Ev.bind e1 (Ev.bind e2 (Ev.bind f1 (Ev.bind f2 (Ev.bind e3 (Ev.bind e4 (Ev.bind hs (Ev.bind (leftImpl_ev a b h) (ev_bind (leftSpec_eq a b h) (Ev.bind (rightImpl_ev a b h) (ev_bind (rightSpec_eq a b h) (Ev.bind hs' (ev_bind (implSum_eq a' b' s) (ev_bind (specSum_eq a' b' s) ?_)))))))))))))))
  refine ev_neg (by simp) (Ev.bind r1 (ev_pos rfl (ev_neg (by simp) (Ev.bind r2 (ev_pos rfl (ev_neg (by simp) (Ev.bind r3 (ev_pos rfl (ev_neg (by simp) (ev_pos rfl (ev_neg (by simp) (ev_pos rfl (ev_neg (by simp) (ev_pos rfl (ev_neg (by rw [left_right]; simp) (ev_neg (by simp) (ev_neg (by simp) ?_)))))))))))))))))
  by_cases ct : t' = true
  · subst ct
    obtain ⟨g1, g2⟩ := e7 rfl
    refine ev_pos rfl (ev_pos (by rw [sl_len, sq_len]) ?_)
    have hm1 : m ≤ 1000000 := by have := of_decide_eq_true e5.symm; exact this.2
    have := l0_ok m hm1 c g1 g2 o f4 (f5 rfl) a b h a' b' s c 0 (by omega)
    show Ev (fun k => laws_FnHousesBalance.l0 k m (sl c) (ol o) (sq c) a b h (leftO a b h).1 (leftO a b h).2 (rightO a b h).1 a' b' s (sumO a' b' s).1 (sumO a' b' s).2 (sl c) ((sl c).length : Int) 0) true
    rw [sl_len]
    exact this
  · exact ev_neg ct (j8_ok a b h a' b' s)
theorem j2_ok (l : List Int) (hl : Bytes l) (a b u v w : Int) (x : Bool) (h : x = true → (v = 1 ∧ 2 * u = a + b ∨ v = 2 ∧ u = a + b ∧ (a + b) % 2 = 1) ∧ St a b ∧ w = tri b - tri (a - 1)) : Ev (fun k => laws_FnHousesBalance.j2 k l a b u v x w) true := by
  have j := j3_ok l hl
  refine ev_succ ?_
  simp only [laws_FnHousesBalance.j2]
  by_cases hx : x = true
  · obtain ⟨h1, hst, h3⟩ := h hx
    obtain ⟨d1, d2, d3⟩ := id hst
    have tb := tri_bound (n := b) (by omega) (by omega)
    have ta := tri_bound (n := a - 1) (by omega) (by omega)
    have hm := mul_big (show (0 : Int) ≤ a + b by omega) (show a + b ≤ 2000000 by omega) (show (0 : Int) ≤ b - a + 1 by omega) (show b - a + 1 ≤ 1000000 by omega)
    have ew : (wrap64 (w * 2) != wrap64 (wrap64 (a + b) * wrap64 (wrap64 (b - a) + 1))) = false := by
      have t1 := tri_two b
      have t2 := tri_two (a - 1)
      have e : b * (b + 1) - (a - 1) * (a - 1 + 1) = (a + b) * (b - a + 1) := by grind
      rw [wrap_of (x := a + b) (by omega) (by omega), wrap_of (x := b - a) (by omega) (by omega), wrap_of (x := b - a + 1) (by omega) (by omega), wrap_of (x := (a + b) * (b - a + 1)) (by omega) (by omega), wrap_of (x := w * 2) (by omega) (by omega)]
      have : w * 2 = (a + b) * (b - a + 1) := by omega
      simp [this]
    rw [ew]
    have wab : wrap64 (a + b) = a + b := wrap_of (by omega) (by omega)
    refine ev_pos hx ?_
    rcases h1 with ⟨hv, h1⟩ | ⟨hv, h1, h2⟩
    · have wu : wrap64 (2 * u) = wrap64 (wrap64 (a + b) * v) := by rw [wab, hv, h1, Int.mul_one]
      exact ev_pos hv (ev_neg (by omega) (ev_pos wu j))
    · have wu : wrap64 (2 * u) = wrap64 (wrap64 (a + b) * v) := by rw [wab, hv, h1, Int.mul_comm]
      exact ev_neg (by omega) (ev_pos hv (ev_neg (by rw [h1, tmod2 (by omega)]; omega) (ev_pos wu j)))
  · exact ev_neg hx j
theorem j1_ok (l : List Int) (hl : Bytes l) (a b p u v w : Int) (y x : Bool) (h : x = true → (v = 1 ∧ 2 * u = a + b ∨ v = 2 ∧ u = a + b ∧ (a + b) % 2 = 1) ∧ St a b ∧ w = tri b - tri (a - 1))
    (hy : y = true → St a b ∧ a ≤ p ∧ p < b ∧ 2 * (tri p - tri (a - 1)) = tri b - tri (a - 1) ∧ w = tri b - tri (a - 1)) : Ev (fun k => laws_FnHousesBalance.j1 k l a b p y u v x w) true := by
  have j := j2_ok l hl a b u v w x h
  refine ev_succ ?_
  simp only [laws_FnHousesBalance.j1]
  by_cases c : y = true
  · obtain ⟨hst, h1, h2, h3, h4⟩ := hy c
    obtain ⟨d1, d2, d3⟩ := id hst
    have tb := tri_bound (n := b) (by omega) (by omega)
    have ta := tri_bound (n := a - 1) (by omega) (by omega)
    have e : sumO a p 1 = (tri p - tri (a - 1), true) := by unfold sumO; rw [if_pos ⟨⟨d1, h1, by omega⟩, by omega, by omega⟩, sumH_one]
    refine ev_pos c (ev_bind (implSum_eq a p 1) ?_)
    rw [e]
    refine ev_pos rfl (ev_pos ?_ (ev_neg (by omega) (ev_neg (by omega) j)))
    show wrap64 (2 * (tri p - tri (a - 1))) = w
    rw [wrap_of (by omega) (by omega)]
    omega
  · exact ev_neg c j
theorem j0_ok (l : List Int) (hl : Bytes l) (a b q p u v w : Int) (z y x : Bool) (h : x = true → (v = 1 ∧ 2 * u = a + b ∨ v = 2 ∧ u = a + b ∧ (a + b) % 2 = 1) ∧ St a b ∧ w = tri b - tri (a - 1))
    (hy : y = true → St a b ∧ a ≤ p ∧ p < b ∧ 2 * (tri p - tri (a - 1)) = tri b - tri (a - 1) ∧ w = tri b - tri (a - 1))
    (hz : z = true → St a b ∧ a ≤ q ∧ q ≤ b ∧ q * q = tri b + tri (a - 1) ∧ w = tri b - tri (a - 1)) : Ev (fun k => laws_FnHousesBalance.j0 k l a b q z p y u v x w false) true := by
  have j := j1_ok l hl a b p u v w y x h hy
  refine ev_succ ?_
  simp only [laws_FnHousesBalance.j0]
  refine ev_neg (by decide) ?_
  by_cases c : z = true
  · obtain ⟨hst, h1, h2, h3, h4⟩ := hz c
    obtain ⟨d1, d2, d3⟩ := id hst
    have tb := tri_bound (n := b) (by omega) (by omega)
    have ta := tri_bound (n := a - 1) (by omega) (by omega)
    have tq := tri_bound (n := q) (by omega) (by omega)
    have tq1 := tri_bound (n := q - 1) (by omega) (by omega)
    have t := tri_step (q - 1)
    rw [show q - 1 + 1 = q by omega] at t
    have t2 := tri_two q
    have hq : q * (q + 1) = q * q + q := by grind
    have e1 : leftO a b q = (tri (q - 1) - tri (a - 1), true) := by unfold leftO; rw [if_pos ⟨hst, h1, h2⟩]
    have e2 : rightO a b q = (tri b - tri q, true) := by unfold rightO; rw [if_pos ⟨hst, h1, h2⟩]
    refine ev_pos c (Ev.bind (leftImpl_ev a b q) (Ev.bind (rightImpl_ev a b q) ?_))
    rw [e1, e2]
    refine ev_neg (by omega) (ev_neg (by omega) (ev_pos rfl (ev_pos rfl (ev_pos ?_ (ev_pos ?_ j)))))
    · show tri (q - 1) - tri (a - 1) = tri b - tri q
      omega
    · show wrap64 (wrap64 (tri (q - 1) - tri (a - 1) + (tri b - tri q)) + q) = w
      rw [wrap_of (x := tri (q - 1) - tri (a - 1) + (tri b - tri q)) (by omega) (by omega), wrap_of (by omega) (by omega)]
      omega
  · exact ev_neg c j
theorem law_ok (l0 l1 : List Int) (h0 : Bytes l0) (h1 : Bytes l1) : Ev (fun k => laws_FnHousesBalance.f k l0 l1) true := by
  obtain ⟨a, b, hd⟩ := drawBalanced_ok l0 h0
  obtain ⟨o1, b1, b2, b3, _⟩ := balImpl a b
  obtain ⟨o2, c1, c2, c3⟩ := dblImpl a b
  have hbig : ∃ t, laws_big.f l0 l1 = some t := by unfold laws_big.f; split <;> exact ⟨_, rfl⟩
  obtain ⟨t, ht⟩ := hbig
  unfold laws_FnHousesBalance.f
  refine ev_bind ht ?_
  by_cases ct : t = true
  · exact ev_pos ct (ev_eq fun _ => rfl)
  refine ev_neg ct (Ev.bind hd (Ev.bind b1 (Ev.bind b2 (Ev.bind c1 (Ev.bind c2 (ev_bind (midImpl_eq a b) (ev_bind (midSpec_eq a b) (ev_bind (implSum_eq a b 1) ?_))))))))
  by_cases hst : St a b
  · have es : sumO a b 1 = (tri b - tri (a - 1), true) := by unfold sumO; rw [if_pos ⟨hst, by omega, by omega⟩, sumH_one]
    obtain ⟨u, v, em, hm⟩ : ∃ u v, midO a b = (u, v, true) ∧ (v = 1 ∧ 2 * u = a + b ∨ v = 2 ∧ u = a + b ∧ (a + b) % 2 = 1) := by
      unfold midO
      rw [if_pos hst]
      by_cases q : (a + b) % 2 = 0
      · rw [if_pos q]; exact ⟨_, _, rfl, .inl ⟨rfl, by omega⟩⟩
      · rw [if_neg q]; exact ⟨_, _, rfl, .inr ⟨rfl, rfl, by omega⟩⟩
    have j := j0_ok l1 h1 a b o1.1 o2.1 u v (tri b - tri (a - 1)) o1.2 o2.2 true (fun _ => ⟨hm, hst, rfl⟩)
      (fun q => by
        rcases c3 with c3 | ⟨p, c3, f1, f2, f3, f4⟩
        · rw [c3] at q; cases q
        · rw [c3]; exact ⟨hst, f2, f3, f4, rfl⟩)
      (fun q => by
        rcases b3 with b3 | ⟨p, b3, f1, f2, f3, f4⟩
        · rw [b3] at q; cases q
        · rw [b3]; exact ⟨hst, f2, f3, f4, rfl⟩)
    rw [es, em]
    refine ev_neg (by simp) (ev_pos rfl (ev_neg (by simp) (ev_pos rfl (ev_neg (by simp) (ev_pos rfl (ev_pos rfl (ev_neg (by simp) ?_)))))))
    by_cases q1 : o1.2 = true
    · refine ev_pos q1 (ev_pos rfl ?_)
      by_cases q2 : o2.2 = true
      · exact ev_pos q2 j
      · exact ev_neg q2 j
    · refine ev_neg q1 ?_
      by_cases q2 : o2.2 = true
      · exact ev_pos q2 j
      · exact ev_neg q2 j
  · have es : sumO a b 1 = (0, false) := by unfold sumO; rw [if_neg (fun x => hst x.1)]
    have em : midO a b = (0, 0, false) := by unfold midO; rw [if_neg hst]
    have e1 : o1 = (0, false) := by
      rcases b3 with b3 | ⟨p, b3, f1, _⟩
      · exact b3
      · exact absurd f1 hst
    have e2 : o2 = (0, false) := by
      rcases c3 with b3 | ⟨p, b3, f1, _⟩
      · exact b3
      · exact absurd f1 hst
    subst e1
    subst e2
    have j := j0_ok l1 h1 a b 0 0 0 0 0 false false false (fun q => by cases q) (fun q => by cases q) (fun q => by cases q)
    rw [es, em]
    exact ev_neg (by simp) (ev_pos rfl (ev_neg (by simp) (ev_pos rfl (ev_neg (by simp) (ev_pos rfl (ev_pos rfl (ev_neg (by simp) (ev_neg (by decide) (ev_neg (by decide) j)))))))))
theorem FnHousesBalance : laws_FnHousesBalance.Pure := by
  intro l0 l1 _ _ h0 _ _ h1
  obtain ⟨K, hK⟩ := law_ok l0 l1 h0 h1
  exact ⟨K, hK K (Nat.le_refl _)⟩

end Go.Proofs.Ytjhmocngcnnfdaa.Pure

/- DigitsWritten: digits that are written are those of all numbers, places tell numbers and digits, last and least ones are found (numbers, lists and texts alone). -/
import Derived.Test.YtiobgaeambfcbaaDoorPFnDigitsWrittenx6
namespace Go.Proofs.YtiobgaeambfcbaaDoor.Pure
open Go.RowKit Go.Proofs.YtiobgaeambfcbaaDoor.PFnDigitsWritten Go.Proofs.YtiobgaeambfcbaaDoorW.PrintWords Go.Proofs.YtiobgaeambfcbaaDoorW.PrintLast
set_option linter.unusedVariables false
set_option linter.unusedSimpArgs false

theorem wrap_of {x : Int} (h0 : -9223372036854775808 ≤ x) (h1 : x ≤ 9223372036854775807) : wrap64 x = x := by unfold wrap64; omega
theorem wrap_nat {i : Nat} (h : i < 4611686018427387904) : wrap64 ((i : Int) + 1) = ((i + 1 : Nat) : Int) := by unfold wrap64; omega
theorem ev_eq {α : Type} {g : Nat → Option α} {r : α} (h : ∀ k, g k = some r) : Ev g r := ⟨0, fun k _ => h k⟩
theorem ev_bind {α β : Type} {x : Option α} {f : Nat → α → Option β} {a : α} {r : β} (h : x = some a) (k : Ev (fun n => f n a) r) : Ev (fun n => x.bind (f n)) r := by subst h; exact k
theorem ev_pos {α : Type} {c : Prop} [Decidable c] {g f : Nat → Option α} {r : α} (h : c) (k : Ev g r) : Ev (fun n => if c then g n else f n) r := by simp only [if_pos h]; exact k
theorem ev_neg {α : Type} {c : Prop} [Decidable c] {g f : Nat → Option α} {r : α} (h : ¬ c) (k : Ev f r) : Ev (fun n => if c then g n else f n) r := by simp only [if_neg h]; exact k
theorem ev_from {α : Type} {g : Nat → Option α} {r : α} (K : Nat) (h : ∀ k, K ≤ k → g k = some r) : Ev g r := ⟨K, h⟩

/-! ### bytes of a text -/
theorem size_len (t : ByteArray) : t.data.toList.length = t.size := by rw [Array.length_toList]; rfl
theorem bt_get (t : ByteArray) (i : Nat) (h : i < t.data.toList.length) : bt t (i : Int) = ((t.data.toList[i]).toNat : Int) := by
  unfold bt
  rw [dif_pos (by rw [Int.toNat_natCast]; simpa using h)]
  simp only [Int.toNat_natCast]
  rfl
theorem ev_succ {α : Type} {g : Nat → Option α} {r : α} (h : Ev (fun k => g (k + 1)) r) : Ev g r := by
  obtain ⟨K, hK⟩ := h
  refine ev_from (K + 1) (fun k hk => ?_)
  obtain ⟨k, rfl⟩ : ∃ m, k = m + 1 := ⟨k - 1, by omega⟩
  exact hK k (by omega)
theorem ext_list (s : ByteArray) (a b : Nat) (hb : b ≤ s.size) : (s.extract a b).data.toList = (s.data.toList.take b).drop a := by
  rw [ByteArray.data_extract, Array.toList_extract, List.extract_eq_take_drop]
  rw [List.drop_take]
theorem take_list (s : ByteArray) (i : Nat) (h : i ≤ s.size) : (s.extract 0 i).data.toList = s.data.toList.take i := by rw [ext_list s 0 i h]; rfl
theorem drop_list (s : ByteArray) (i : Nat) : (s.extract i s.size).data.toList = s.data.toList.drop i := by
  rw [ext_list s i s.size (Nat.le_refl _), List.take_of_length_le (by rw [size_len]; exact Nat.le_refl _)]
theorem mk_data (s : ByteArray) : (⟨s.data.toList.toArray⟩ : ByteArray) = s := by cases s; simp
theorem of_list {s : ByteArray} {l : List UInt8} (h : s.data.toList = l) : s = ⟨l.toArray⟩ := by rw [← h, mk_data]
theorem list_of (l : List UInt8) : (⟨l.toArray⟩ : ByteArray).data.toList = l := by simp
theorem mk_size (l : List UInt8) : (⟨l.toArray⟩ : ByteArray).size = l.length := by rw [← size_len, list_of]
theorem mk_append (a b : List UInt8) : (⟨a.toArray⟩ : ByteArray) ++ ⟨b.toArray⟩ = ⟨(a ++ b).toArray⟩ := by
  apply of_list; rw [ByteArray.data_append, Array.toList_append, list_of, list_of]
theorem l1In_eq (n lo hi : Int) : spec_l1In.f n lo hi = some (decide (lo ≤ n ∧ n ≤ hi)) := by
  unfold spec_l1In.f
  by_cases h : n ≥ lo
  · rw [if_pos h]; congr 1; simp; intro _; omega
  · rw [if_neg h]; congr 1; simp; intro; omega
theorem within_eq (n lo hi : Int) : impl_within.f n lo hi = some (decide (lo ≤ n ∧ n ≤ hi)) := by
  unfold impl_within.f
  by_cases h : lo ≤ n
  · rw [if_pos h]; congr 1; simp; intro _; omega
  · rw [if_neg h]; congr 1; simp; intro; omega

/-! ### how often a digit is written -/
def trm (u n d : Int) : Int := let a := if d = 0 then n / u / 10 - 1 else n / u / 10
  if a < 0 then 0 else a * u + (if n / u % 10 > d then u else if n / u % 10 = d then n % u + 1 else 0)
def hit (u n d : Int) : Int := if n / u % 10 = d ∧ (d = 0 → 10 * u ≤ n) ∧ (u ≤ n) then 1 else 0
def sumT (n d : Int) : Nat → Int
  | 0 => 0
  | i + 1 => sumT n d i + trm (10 ^ i) n d
theorem p10_pos (i : Nat) : (1 : Int) ≤ 10 ^ i := by
  have : (0 : Int) < 10 ^ i := Int.pow_pos (by decide)
  omega
theorem p10_mono {i j : Nat} (h : i ≤ j) : (10 : Int) ^ i ≤ 10 ^ j := by
  induction h with
  | refl => exact Int.le_refl _
  | step h ih => rw [Int.pow_succ]; have := p10_pos ‹Nat›; omega
theorem trm_over {u n d : Int} (hn : 0 ≤ n) (h : n < u) (h0 : 0 ≤ d) : trm u n d = 0 := by
  have e : n / u = 0 := Int.ediv_eq_zero_of_lt hn h
  unfold trm; dsimp only; rw [e]
  by_cases c : d = 0
  · rw [if_pos c, if_pos (by omega)]
  · rw [if_neg c, if_neg (by omega), if_neg (by omega), if_neg (by omega)]; omega
theorem trm_zero {u n : Int} (hn : 0 ≤ n) (hu : 0 < u) (h : n / u / 10 < 1) : trm u n 0 = 0 := by
  unfold trm; dsimp only; rw [if_pos rfl, if_pos (by omega)]
theorem au_le {u n : Int} (hn : 0 ≤ n) (hu : 0 < u) : n / u / 10 * u ≤ n ∧ 0 ≤ n / u / 10 ∧ 0 ≤ n / u ∧ 0 ≤ n / u / 10 * u := by
  have h1 := Int.ediv_mul_le n (show u ≠ 0 by omega)
  have h0 : 0 ≤ n / u := Int.ediv_nonneg hn (by omega)
  have h2 : n / u / 10 * u ≤ n / u * u := Int.mul_le_mul_of_nonneg_right (by omega) (by omega)
  have h3 : 0 ≤ n / u / 10 * u := Int.mul_nonneg (by omega) (by omega)
  exact ⟨by omega, by omega, h0, h3⟩
theorem trm_bd {u n d : Int} (hn : 0 ≤ n) (hu : 0 < u) (hun : u ≤ n) : 0 ≤ trm u n d ∧ trm u n d ≤ 2 * n + 1 := by
  have ha := au_le hn hu
  have hb := Int.emod_lt_of_pos n hu
  have hb0 := Int.emod_nonneg n (show u ≠ 0 by omega)
  have e : (n / u / 10 - 1) * u = n / u / 10 * u - u := by rw [Int.sub_mul, Int.one_mul]
  have key : ∀ a : Int, (a = n / u / 10 ∨ a = n / u / 10 - 1) → ¬ a < 0 → 0 ≤ a * u ∧ a * u ≤ n := by
    rintro a (rfl | rfl) h
    · exact ⟨ha.2.2.2, ha.1⟩
    · exact ⟨Int.mul_nonneg (by omega) (by omega), by rw [e]; omega⟩
  unfold trm; dsimp only
  have hk : ∀ a : Int, (a = n / u / 10 ∨ a = n / u / 10 - 1) → 0 ≤ (if a < 0 then (0 : Int) else a * u + (if n / u % 10 > d then u else if n / u % 10 = d then n % u + 1 else 0)) ∧ (if a < 0 then (0 : Int) else a * u + (if n / u % 10 > d then u else if n / u % 10 = d then n % u + 1 else 0)) ≤ 2 * n + 1 := by
    intro a h
    by_cases c : a < 0
    · rw [if_pos c]; omega
    · rw [if_neg c]
      have := key a h c
      split
      · omega
      · split <;> omega
  by_cases c : d = 0
  · rw [if_pos c]; exact hk _ (Or.inr rfl)
  · rw [if_neg c]; exact hk _ (Or.inl rfl)
theorem sumT_over {n d : Int} (hn : 0 ≤ n) (h0 : 0 ≤ d) (i : Nat) (h : n < 10 ^ i) : ∀ j, i ≤ j → sumT n d j = sumT n d i := by
  intro j hj
  induction hj with
  | refl => rfl
  | step hj ih =>
    rename_i m
    rw [sumT, ih, trm_over hn (by have := p10_mono hj; omega) h0]; omega
theorem sumT_zero {n : Int} (hn : 0 ≤ n) (i : Nat) (h : n / 10 ^ i / 10 < 1) : ∀ j, i ≤ j → sumT n 0 j = sumT n 0 i := by
  intro j hj
  induction hj with
  | refl => rfl
  | step hj ih =>
    rename_i m
    have h1 := p10_pos i
    have h2 := p10_pos m
    have h3 := p10_mono hj
    have hd : n / 10 ^ m ≤ n / 10 ^ i := by
      have a := Int.ediv_mul_le n (show (10 : Int) ^ m ≠ 0 by omega)
      have b : 0 ≤ n / 10 ^ m := Int.ediv_nonneg hn (by omega)
      refine (Int.le_ediv_iff_mul_le (by omega)).mpr ?_
      have c := Int.mul_le_mul_of_nonneg_left h3 b
      omega
    rw [sumT, ih, trm_zero hn (by omega) (by omega)]; omega
theorem sumT_bd {n d : Int} (hn : 0 ≤ n) (h0 : 0 ≤ d) : ∀ i : Nat, 0 ≤ sumT n d i ∧ sumT n d i ≤ i * (2 * n + 1) := by
  intro i
  induction i with
  | zero => simp [sumT]
  | succ i ih =>
    have hp := p10_pos i
    rw [sumT]
    have hb : 0 ≤ trm (10 ^ i) n d ∧ trm (10 ^ i) n d ≤ 2 * n + 1 := by
      by_cases c : (10 : Int) ^ i ≤ n
      · exact trm_bd hn (by omega) c
      · rw [trm_over hn (by omega) h0]; omega
    have e : ((i + 1 : Nat) : Int) * (2 * n + 1) = i * (2 * n + 1) + (2 * n + 1) := by rw [show ((i + 1 : Nat) : Int) = (i : Int) + 1 by omega, Int.add_mul, Int.one_mul]
    rw [e]
    omega

/-! ### both sides' loops over the places -/
theorem p10_13 : (10 : Int) ^ 13 = 10000000000000 := by decide
theorem impl_j1 {n d u acc r a : Int} (hN : n ≤ 1000000000000) (hu : 1 ≤ u) (hun : u ≤ n) (hc : 0 ≤ acc ∧ acc ≤ 1000000000000000) (hau : ¬ a < 0 → 0 ≤ a * u ∧ a * u ≤ n) (hz : a < 0 → r = acc)
    (h : Ev (fun k => impl_countDigit.l0 k n d (acc + if a < 0 then 0 else a * u + (if n / u % 10 > d then u else if n / u % 10 = d then n % u + 1 else 0)) (u * 10)) r) :
    Ev (fun k => impl_countDigit.j1 k n d acc u a (n / u % 10) (n % u)) r := by
  have hb := Int.emod_lt_of_pos n (show 0 < u by omega)
  have hb0 := Int.emod_nonneg n (show u ≠ 0 by omega)
  refine ev_succ ?_
  simp only [impl_countDigit.j1]
  by_cases c : a < 0
  · exact ev_pos c (ev_eq fun _ => by rw [hz c])
  have hx := hau c
  rw [if_neg c] at h
  rw [wrap_of (x := u * 10) (by omega) (by omega), wrap_of (x := a * u) (by omega) (by omega), wrap_of (x := acc + a * u) (by omega) (by omega), wrap_of (x := acc + a * u + u) (by omega) (by omega), wrap_of (x := n % u + 1) (by omega) (by omega), wrap_of (x := acc + a * u + (n % u + 1)) (by omega) (by omega)]
  refine ev_neg c ?_
  by_cases c1 : n / u % 10 > d
  · rw [if_pos c1, ← Int.add_assoc] at h; exact ev_pos c1 h
  by_cases c2 : n / u % 10 = d
  · rw [if_neg c1, if_pos c2, ← Int.add_assoc] at h; exact ev_neg c1 (ev_pos c2 h)
  · rw [if_neg c1, if_neg c2, Int.add_zero] at h; exact ev_neg c1 (ev_neg c2 h)
theorem above_le {n u d : Int} (hn : 0 ≤ n) (hu : 1 ≤ u) : ¬ (if d = 0 then n / u / 10 - 1 else n / u / 10) < 0 → 0 ≤ (if d = 0 then n / u / 10 - 1 else n / u / 10) * u ∧ (if d = 0 then n / u / 10 - 1 else n / u / 10) * u ≤ n := by
  have ha := au_le hn (show 0 < u by omega)
  have e : (n / u / 10 - 1) * u = n / u / 10 * u - u := by rw [Int.sub_mul, Int.one_mul]
  by_cases c : d = 0
  · rw [if_pos c]; intro h; exact ⟨Int.mul_nonneg (by omega) (by omega), by rw [e]; omega⟩
  · rw [if_neg c]; intro _; exact ⟨ha.2.2.2, ha.1⟩
theorem quots {n u : Int} (hn : 0 ≤ n) (hN : n ≤ 1000000000000) (hu : 1 ≤ u) : wrap64 (Int.tdiv n u) = n / u ∧ wrap64 (Int.tdiv (n / u) 10) = n / u / 10 ∧ Int.tmod (n / u) 10 = n / u % 10 ∧ Int.tmod n u = n % u := by
  have ha := au_le hn (show 0 < u by omega)
  have hl : n / u ≤ n := Int.ediv_le_self u hn
  refine ⟨?_, ?_, Int.tmod_eq_emod_of_nonneg ha.2.2.1, Int.tmod_eq_emod_of_nonneg hn⟩
  · rw [Int.tdiv_eq_ediv_of_nonneg hn, wrap_of (by omega) (by omega)]
  · rw [Int.tdiv_eq_ediv_of_nonneg ha.2.2.1, wrap_of (by omega) (by omega)]
theorem impl_step {n d u acc r : Int} (hn : 0 ≤ n) (hN : n ≤ 1000000000000) (hu : 1 ≤ u) (hun : u ≤ n) (hc : 0 ≤ acc ∧ acc ≤ 1000000000000000) (hz : (if d = 0 then n / u / 10 - 1 else n / u / 10) < 0 → r = acc)
    (h : Ev (fun k => impl_countDigit.l0 k n d (acc + trm u n d) (u * 10)) r) : Ev (fun k => impl_countDigit.l0 k n d acc u) r := by
  have ha := au_le hn (show 0 < u by omega)
  obtain ⟨e1, e2, e3, e4⟩ := quots hn hN hu
  have hj := impl_j1 (a := if d = 0 then n / u / 10 - 1 else n / u / 10) hN hu hun hc (above_le hn hu) hz h
  have hl : n / u ≤ n := Int.ediv_le_self u hn
  refine ev_succ ?_
  simp only [impl_countDigit.l0]
  rw [e1, e2, e3, e4, wrap_of (x := n / u / 10 - 1) (by omega) (by omega)]
  refine ev_pos hun (ev_neg (by omega) ?_)
  by_cases c : d = 0
  · rw [if_pos c] at hj; exact ev_pos c hj
  · rw [if_neg c] at hj; exact ev_neg c hj
theorem spec_j1 {n d u acc r a : Int} (hN : n ≤ 1000000000000) (hu : 1 ≤ u) (hun : u ≤ n) (hc : 0 ≤ acc ∧ acc ≤ 1000000000000000) (hau : ¬ a < 0 → 0 ≤ a * u ∧ a * u ≤ n)
    (h : Ev (fun k => spec_diCount.l0 k n d (acc + if a < 0 then 0 else a * u + (if n / u % 10 > d then u else if n / u % 10 = d then n % u + 1 else 0)) (u * 10)) r) :
    Ev (fun k => spec_diCount.j1 k n d acc u a (n / u % 10) (n % u)) r := by
  have hb := Int.emod_lt_of_pos n (show 0 < u by omega)
  have hb0 := Int.emod_nonneg n (show u ≠ 0 by omega)
  refine ev_succ ?_
  simp only [spec_diCount.j1]
  rw [wrap_of (x := u * 10) (by omega) (by omega)]
  by_cases c : a < 0
  · rw [if_pos c, Int.add_zero] at h; exact ev_pos c h
  have hx := hau c
  rw [if_neg c] at h
  rw [wrap_of (x := a * u) (by omega) (by omega), wrap_of (x := acc + a * u) (by omega) (by omega), wrap_of (x := acc + a * u + u) (by omega) (by omega), wrap_of (x := n % u + 1) (by omega) (by omega), wrap_of (x := acc + a * u + (n % u + 1)) (by omega) (by omega)]
  refine ev_neg c ?_
  by_cases c1 : n / u % 10 > d
  · rw [if_pos c1, ← Int.add_assoc] at h; exact ev_pos c1 h
  by_cases c2 : n / u % 10 = d
  · rw [if_neg c1, if_pos c2, ← Int.add_assoc] at h; exact ev_neg c1 (ev_pos c2 h)
  · rw [if_neg c1, if_neg c2, Int.add_zero] at h; exact ev_neg c1 (ev_neg c2 h)
theorem spec_step {n d u acc r : Int} (hn : 0 ≤ n) (hN : n ≤ 1000000000000) (hu : 1 ≤ u) (hun : u ≤ n) (hc : 0 ≤ acc ∧ acc ≤ 1000000000000000)
    (h : Ev (fun k => spec_diCount.l0 k n d (acc + trm u n d) (u * 10)) r) : Ev (fun k => spec_diCount.l0 k n d acc u) r := by
  have ha := au_le hn (show 0 < u by omega)
  obtain ⟨e1, _, e3, e4⟩ := quots hn hN hu
  have e2 : wrap64 (Int.tdiv n (u * 10)) = n / u / 10 := by
    rw [Int.tdiv_eq_ediv_of_nonneg hn, ← Int.ediv_ediv_of_nonneg (show (0 : Int) ≤ u by omega), wrap_of (by omega) (by have := Int.ediv_le_self u hn; omega)]
  have hj := spec_j1 (a := if d = 0 then n / u / 10 - 1 else n / u / 10) hN hu hun hc (above_le hn hu) h
  refine ev_succ ?_
  simp only [spec_diCount.l0]
  rw [wrap_of (x := u * 10) (by omega) (by omega), e1, e2, e3, e4, wrap_of (x := n / u / 10 - 1) (by omega) (by have := Int.ediv_le_self u hn; omega)]
  refine ev_pos hun (ev_neg (by omega) (ev_neg (by omega) ?_))
  by_cases c : d = 0
  · rw [if_pos c] at hj; exact ev_pos c hj
  · rw [if_neg c] at hj; exact ev_neg c hj
theorem implCount_loop {n d : Int} (hn : 0 ≤ n) (hN : n ≤ 1000000000000) (h0 : 0 ≤ d) : ∀ m i : Nat, i + m = 13 → Ev (fun k => impl_countDigit.l0 k n d (sumT n d i) (10 ^ i)) (sumT n d 13) := by
  intro m
  induction m with
  | zero =>
    intro i hi
    obtain rfl : i = 13 := by omega
    refine ev_succ ?_
    simp only [impl_countDigit.l0]
    exact ev_neg (by rw [p10_13]; omega) (ev_eq fun _ => rfl)
  | succ m ih =>
    intro i hi
    have hp := p10_pos i
    have hb := sumT_bd hn h0 i
    have hi13 : ((i : Nat) : Int) * (2 * n + 1) ≤ 13 * (2 * n + 1) := Int.mul_le_mul_of_nonneg_right (by omega) (by omega)
    by_cases c : (10 : Int) ^ i ≤ n
    · refine impl_step hn hN hp c ⟨hb.1, by omega⟩ (fun hz => ?_) ?_
      · have ha := au_le hn (show 0 < (10 : Int) ^ i by omega)
        by_cases cd : d = 0
        · subst cd
          rw [if_pos rfl] at hz
          exact sumT_zero hn i (by omega) 13 (by omega)
        · rw [if_neg cd] at hz; omega
      · have := ih (i + 1) (by omega)
        rw [sumT, Int.pow_succ] at this
        exact this
    · refine ev_succ ?_
      simp only [impl_countDigit.l0]
      exact ev_neg c (ev_eq fun _ => by rw [sumT_over hn h0 i (by omega) 13 (by omega)])
theorem specCount_loop {n d : Int} (hn : 0 ≤ n) (hN : n ≤ 1000000000000) (h0 : 0 ≤ d) : ∀ m i : Nat, i + m = 13 → Ev (fun k => spec_diCount.l0 k n d (sumT n d i) (10 ^ i)) (sumT n d 13) := by
  intro m
  induction m with
  | zero =>
    intro i hi
    obtain rfl : i = 13 := by omega
    refine ev_succ ?_
    simp only [spec_diCount.l0]
    exact ev_neg (by rw [p10_13]; omega) (ev_eq fun _ => rfl)
  | succ m ih =>
    intro i hi
    have hp := p10_pos i
    have hb := sumT_bd hn h0 i
    have hi13 : ((i : Nat) : Int) * (2 * n + 1) ≤ 13 * (2 * n + 1) := Int.mul_le_mul_of_nonneg_right (by omega) (by omega)
    by_cases c : (10 : Int) ^ i ≤ n
    · refine spec_step hn hN hp c ⟨hb.1, by omega⟩ ?_
      have := ih (i + 1) (by omega)
      rw [sumT, Int.pow_succ] at this
      exact this
    · refine ev_succ ?_
      simp only [spec_diCount.l0]
      exact ev_neg c (ev_eq fun _ => by rw [sumT_over hn h0 i (by omega) 13 (by omega)])
def cntO (n d : Int) : Int := sumT n d 13
theorem implCount_ev {n d : Int} (hn : 0 ≤ n) (hN : n ≤ 1000000000000) (h0 : 0 ≤ d) : Ev (fun k => impl_countDigit.f k n d) (cntO n d) := by
  unfold impl_countDigit.f; exact implCount_loop hn hN h0 13 0 (by omega)
theorem specCount_ev {n d : Int} (hn : 0 ≤ n) (hN : n ≤ 1000000000000) (h0 : 0 ≤ d) : Ev (fun k => spec_diCount.f k n d) (cntO n d) := by
  unfold spec_diCount.f; exact specCount_loop hn hN h0 13 0 (by omega)

/-! ### how many digits are written -/
def wtm (u g n : Int) : Int := if u ≤ n then g * (min n (10 * u - 1) - u + 1) else 0
def sumW (n : Int) : Nat → Int
  | 0 => 0
  | i + 1 => sumW n i + wtm (10 ^ i) ((i : Int) + 1) n
theorem wtm_bd {u g n : Int} (hn : 0 ≤ n) (hu : 1 ≤ u) (hg : 0 ≤ g ∧ g ≤ 13) : 0 ≤ wtm u g n ∧ wtm u g n ≤ 13 * n := by
  unfold wtm
  by_cases c : u ≤ n
  · rw [if_pos c]
    have h0 : 0 ≤ min n (10 * u - 1) - u + 1 := by omega
    have h1 : min n (10 * u - 1) - u + 1 ≤ n := by omega
    have h2 := Int.mul_nonneg hg.1 h0
    have h3 : g * (min n (10 * u - 1) - u + 1) ≤ 13 * (min n (10 * u - 1) - u + 1) := Int.mul_le_mul_of_nonneg_right hg.2 h0
    omega
  · rw [if_neg c]; omega
theorem sumW_over {n : Int} (i : Nat) (h : n < 10 ^ i) : ∀ j, i ≤ j → sumW n j = sumW n i := by
  intro j hj
  induction hj with
  | refl => rfl
  | step hj ih =>
    rename_i m
    have := p10_mono hj
    rw [sumW, ih]; unfold wtm; rw [if_neg (by omega)]; omega
theorem sumW_bd {n : Int} (hn : 0 ≤ n) : ∀ i : Nat, i ≤ 13 → 0 ≤ sumW n i ∧ sumW n i ≤ i * (13 * n) := by
  intro i
  induction i with
  | zero => intro _; simp [sumW]
  | succ i ih =>
    intro hi
    have hb := wtm_bd (g := (i : Int) + 1) hn (p10_pos i) (by omega)
    have := ih (by omega)
    have e : ((i + 1 : Nat) : Int) * (13 * n) = i * (13 * n) + 13 * n := by rw [show ((i + 1 : Nat) : Int) = (i : Int) + 1 by omega, Int.add_mul, Int.one_mul]
    rw [sumW, e]
    omega
theorem mn_min (a b : Int) : mn a b = min a b := by unfold mn; split <;> omega
theorem implW_loop {n : Int} (hn : 0 ≤ n) (hN : n ≤ 1000000000001) : ∀ m i : Nat, i + m = 13 → Ev (fun k => impl_written.l0 k n (sumW n i) ((i : Int) + 1) (10 ^ i)) (sumW n 13) := by
  intro m
  induction m with
  | zero =>
    intro i hi
    obtain rfl : i = 13 := by omega
    refine ev_succ ?_
    simp only [impl_written.l0]
    exact ev_neg (by rw [p10_13]; omega) (ev_eq fun _ => rfl)
  | succ m ih =>
    intro i hi
    have hp := p10_pos i
    have hb := sumW_bd hn i (by omega)
    have hi13 : ((i : Nat) : Int) * (13 * n) ≤ 13 * (13 * n) := Int.mul_le_mul_of_nonneg_right (by omega) (by omega)
    refine ev_succ ?_
    simp only [impl_written.l0]
    by_cases c : (10 : Int) ^ i ≤ n
    · have hw := wtm_bd (g := (i : Int) + 1) hn hp (by omega)
      have hj := ih (i + 1) (by omega)
      rw [sumW, Int.pow_succ, show (((i + 1 : Nat) : Int) + 1) = (i : Int) + 1 + 1 by omega] at hj
      unfold wtm at hw hj
      rw [if_pos c] at hw hj
      refine ev_pos c ?_
      generalize (10 : Int) ^ i = u at hp c hw hj ⊢
      rw [mn_min, wrap_of (x := 10 * u) (by omega) (by omega), wrap_of (x := 10 * u - 1) (by omega) (by omega), wrap_of (x := min n (10 * u - 1) - u) (by omega) (by omega), wrap_of (x := min n (10 * u - 1) - u + 1) (by omega) (by omega),
        wrap_of (x := ((i : Int) + 1) * (min n (10 * u - 1) - u + 1)) (by omega) (by omega), wrap_of (x := sumW n i + ((i : Int) + 1) * (min n (10 * u - 1) - u + 1)) (by omega) (by omega), wrap_of (x := (i : Int) + 1 + 1) (by omega) (by omega), wrap_of (x := u * 10) (by omega) (by omega)]
      exact hj
    · exact ev_neg c (ev_eq fun _ => by rw [sumW_over i (by omega) 13 (by omega)])
theorem least_min (a b : Int) : spec_l1Least.f a b = some (min a b) := by
  unfold spec_l1Least.f; split <;> (congr 1; omega)
theorem specW_loop {n : Int} (hn : 0 ≤ n) (hN : n ≤ 1000000000001) : ∀ m i : Nat, i + m = 13 → Ev (fun k => spec_diWritten.l0 k n (sumW n i) (10 ^ i) ((i : Int) + 1)) (sumW n 13) := by
  intro m
  induction m with
  | zero =>
    intro i hi
    obtain rfl : i = 13 := by omega
    refine ev_succ ?_
    simp only [spec_diWritten.l0]
    exact ev_neg (by rw [p10_13]; omega) (ev_eq fun _ => rfl)
  | succ m ih =>
    intro i hi
    have hp := p10_pos i
    have hb := sumW_bd hn i (by omega)
    have hi13 : ((i : Nat) : Int) * (13 * n) ≤ 13 * (13 * n) := Int.mul_le_mul_of_nonneg_right (by omega) (by omega)
    refine ev_succ ?_
    simp only [spec_diWritten.l0]
    by_cases c : (10 : Int) ^ i ≤ n
    · have hw := wtm_bd (g := (i : Int) + 1) hn hp (by omega)
      have hj := ih (i + 1) (by omega)
      rw [sumW, Int.pow_succ, show (((i + 1 : Nat) : Int) + 1) = (i : Int) + 1 + 1 by omega] at hj
      unfold wtm at hw hj
      rw [if_pos c, Int.mul_comm ((i : Int) + 1)] at hw hj
      refine ev_pos c ?_
      generalize (10 : Int) ^ i = u at hp c hw hj ⊢
      rw [wrap_of (x := u * 10) (by omega) (by omega), wrap_of (x := u * 10 - 1) (by omega) (by omega), show u * 10 - 1 = 10 * u - 1 by omega]
      refine ev_bind (least_min _ _) ?_
      rw [wrap_of (x := min n (10 * u - 1) - u) (by omega) (by omega), wrap_of (x := min n (10 * u - 1) - u + 1) (by omega) (by omega),
        wrap_of (x := (min n (10 * u - 1) - u + 1) * ((i : Int) + 1)) (by omega) (by omega), wrap_of (x := sumW n i + (min n (10 * u - 1) - u + 1) * ((i : Int) + 1)) (by omega) (by omega), wrap_of (x := (i : Int) + 1 + 1) (by omega) (by omega)]
      exact hj
    · exact ev_neg c (ev_eq fun _ => by rw [sumW_over i (by omega) 13 (by omega)])
def wrtO (n : Int) : Int := sumW n 13
theorem implW_ev {n : Int} (hn : 0 ≤ n) (hN : n ≤ 1000000000001) : Ev (fun k => impl_written.f k n) (wrtO n) := by
  unfold impl_written.f; exact implW_loop hn hN 13 0 (by omega)
theorem specW_ev {n : Int} (hn : 0 ≤ n) (hN : n ≤ 1000000000001) : Ev (fun k => spec_diWritten.f k n) (wrtO n) := by
  unfold spec_diWritten.f; exact specW_loop hn hN 13 0 (by omega)

/-! ### from one number to the next (place by place, by omega) -/
theorem trs0 (n d : Int) (h : 1 ≤ n) (h0 : 0 ≤ d) (h9 : d ≤ 9) : trm (10 ^ 0) n d - trm (10 ^ 0) (n - 1) d = hit (10 ^ 0) n d := by
  rw [show (10 : Int) ^ 0 = 1 by decide]; unfold trm hit; dsimp only; repeat' split
  all_goals omega
theorem trg0 (n d : Int) (h : 0 ≤ n) (h0 : 1 ≤ d) (h9 : d ≤ 9) : trm (10 ^ 0) n 0 ≤ trm (10 ^ 0) n d := by
  rw [show (10 : Int) ^ 0 = 1 by decide]; unfold trm; dsimp only; repeat' split
  all_goals omega
theorem wts0 (n : Int) (h : 1 ≤ n) : wtm (10 ^ 0) ((0 : Nat) + 1 : Int) n - wtm (10 ^ 0) ((0 : Nat) + 1 : Int) (n - 1) = if 10 ^ 0 ≤ n ∧ n < 10 ^ 0 * 10 then (0 : Int) + 1 else 0 := by
  rw [show (10 : Int) ^ 0 = 1 by decide]; unfold wtm; repeat' split
  all_goals omega
theorem trs1 (n d : Int) (h : 1 ≤ n) (h0 : 0 ≤ d) (h9 : d ≤ 9) : trm (10 ^ 1) n d - trm (10 ^ 1) (n - 1) d = hit (10 ^ 1) n d := by
  rw [show (10 : Int) ^ 1 = 10 by decide]; unfold trm hit; dsimp only; repeat' split
  all_goals omega
theorem trg1 (n d : Int) (h : 0 ≤ n) (h0 : 1 ≤ d) (h9 : d ≤ 9) : trm (10 ^ 1) n 0 ≤ trm (10 ^ 1) n d := by
  rw [show (10 : Int) ^ 1 = 10 by decide]; unfold trm; dsimp only; repeat' split
  all_goals omega
theorem wts1 (n : Int) (h : 1 ≤ n) : wtm (10 ^ 1) ((1 : Nat) + 1 : Int) n - wtm (10 ^ 1) ((1 : Nat) + 1 : Int) (n - 1) = if 10 ^ 1 ≤ n ∧ n < 10 ^ 1 * 10 then (1 : Int) + 1 else 0 := by
  rw [show (10 : Int) ^ 1 = 10 by decide]; unfold wtm; repeat' split
  all_goals omega
theorem trs2 (n d : Int) (h : 1 ≤ n) (h0 : 0 ≤ d) (h9 : d ≤ 9) : trm (10 ^ 2) n d - trm (10 ^ 2) (n - 1) d = hit (10 ^ 2) n d := by
  rw [show (10 : Int) ^ 2 = 100 by decide]; unfold trm hit; dsimp only; repeat' split
  all_goals omega
theorem trg2 (n d : Int) (h : 0 ≤ n) (h0 : 1 ≤ d) (h9 : d ≤ 9) : trm (10 ^ 2) n 0 ≤ trm (10 ^ 2) n d := by
  rw [show (10 : Int) ^ 2 = 100 by decide]; unfold trm; dsimp only; repeat' split
  all_goals omega
theorem wts2 (n : Int) (h : 1 ≤ n) : wtm (10 ^ 2) ((2 : Nat) + 1 : Int) n - wtm (10 ^ 2) ((2 : Nat) + 1 : Int) (n - 1) = if 10 ^ 2 ≤ n ∧ n < 10 ^ 2 * 10 then (2 : Int) + 1 else 0 := by
  rw [show (10 : Int) ^ 2 = 100 by decide]; unfold wtm; repeat' split
  all_goals omega
theorem trs3 (n d : Int) (h : 1 ≤ n) (h0 : 0 ≤ d) (h9 : d ≤ 9) : trm (10 ^ 3) n d - trm (10 ^ 3) (n - 1) d = hit (10 ^ 3) n d := by
  rw [show (10 : Int) ^ 3 = 1000 by decide]; unfold trm hit; dsimp only; repeat' split
  all_goals omega
theorem trg3 (n d : Int) (h : 0 ≤ n) (h0 : 1 ≤ d) (h9 : d ≤ 9) : trm (10 ^ 3) n 0 ≤ trm (10 ^ 3) n d := by
  rw [show (10 : Int) ^ 3 = 1000 by decide]; unfold trm; dsimp only; repeat' split
  all_goals omega
theorem wts3 (n : Int) (h : 1 ≤ n) : wtm (10 ^ 3) ((3 : Nat) + 1 : Int) n - wtm (10 ^ 3) ((3 : Nat) + 1 : Int) (n - 1) = if 10 ^ 3 ≤ n ∧ n < 10 ^ 3 * 10 then (3 : Int) + 1 else 0 := by
  rw [show (10 : Int) ^ 3 = 1000 by decide]; unfold wtm; repeat' split
  all_goals omega
theorem trs4 (n d : Int) (h : 1 ≤ n) (h0 : 0 ≤ d) (h9 : d ≤ 9) : trm (10 ^ 4) n d - trm (10 ^ 4) (n - 1) d = hit (10 ^ 4) n d := by
  rw [show (10 : Int) ^ 4 = 10000 by decide]; unfold trm hit; dsimp only; repeat' split
  all_goals omega
theorem trg4 (n d : Int) (h : 0 ≤ n) (h0 : 1 ≤ d) (h9 : d ≤ 9) : trm (10 ^ 4) n 0 ≤ trm (10 ^ 4) n d := by
  rw [show (10 : Int) ^ 4 = 10000 by decide]; unfold trm; dsimp only; repeat' split
  all_goals omega
theorem wts4 (n : Int) (h : 1 ≤ n) : wtm (10 ^ 4) ((4 : Nat) + 1 : Int) n - wtm (10 ^ 4) ((4 : Nat) + 1 : Int) (n - 1) = if 10 ^ 4 ≤ n ∧ n < 10 ^ 4 * 10 then (4 : Int) + 1 else 0 := by
  rw [show (10 : Int) ^ 4 = 10000 by decide]; unfold wtm; repeat' split
  all_goals omega
theorem trs5 (n d : Int) (h : 1 ≤ n) (h0 : 0 ≤ d) (h9 : d ≤ 9) : trm (10 ^ 5) n d - trm (10 ^ 5) (n - 1) d = hit (10 ^ 5) n d := by
  rw [show (10 : Int) ^ 5 = 100000 by decide]; unfold trm hit; dsimp only; repeat' split
  all_goals omega
theorem trg5 (n d : Int) (h : 0 ≤ n) (h0 : 1 ≤ d) (h9 : d ≤ 9) : trm (10 ^ 5) n 0 ≤ trm (10 ^ 5) n d := by
  rw [show (10 : Int) ^ 5 = 100000 by decide]; unfold trm; dsimp only; repeat' split
  all_goals omega
theorem wts5 (n : Int) (h : 1 ≤ n) : wtm (10 ^ 5) ((5 : Nat) + 1 : Int) n - wtm (10 ^ 5) ((5 : Nat) + 1 : Int) (n - 1) = if 10 ^ 5 ≤ n ∧ n < 10 ^ 5 * 10 then (5 : Int) + 1 else 0 := by
  rw [show (10 : Int) ^ 5 = 100000 by decide]; unfold wtm; repeat' split
  all_goals omega
theorem trs6 (n d : Int) (h : 1 ≤ n) (h0 : 0 ≤ d) (h9 : d ≤ 9) : trm (10 ^ 6) n d - trm (10 ^ 6) (n - 1) d = hit (10 ^ 6) n d := by
  rw [show (10 : Int) ^ 6 = 1000000 by decide]; unfold trm hit; dsimp only; repeat' split
  all_goals omega
theorem trg6 (n d : Int) (h : 0 ≤ n) (h0 : 1 ≤ d) (h9 : d ≤ 9) : trm (10 ^ 6) n 0 ≤ trm (10 ^ 6) n d := by
  rw [show (10 : Int) ^ 6 = 1000000 by decide]; unfold trm; dsimp only; repeat' split
  all_goals omega
theorem wts6 (n : Int) (h : 1 ≤ n) : wtm (10 ^ 6) ((6 : Nat) + 1 : Int) n - wtm (10 ^ 6) ((6 : Nat) + 1 : Int) (n - 1) = if 10 ^ 6 ≤ n ∧ n < 10 ^ 6 * 10 then (6 : Int) + 1 else 0 := by
  rw [show (10 : Int) ^ 6 = 1000000 by decide]; unfold wtm; repeat' split
  all_goals omega
theorem trs7 (n d : Int) (h : 1 ≤ n) (h0 : 0 ≤ d) (h9 : d ≤ 9) : trm (10 ^ 7) n d - trm (10 ^ 7) (n - 1) d = hit (10 ^ 7) n d := by
  rw [show (10 : Int) ^ 7 = 10000000 by decide]; unfold trm hit; dsimp only; repeat' split
  all_goals omega
theorem trg7 (n d : Int) (h : 0 ≤ n) (h0 : 1 ≤ d) (h9 : d ≤ 9) : trm (10 ^ 7) n 0 ≤ trm (10 ^ 7) n d := by
  rw [show (10 : Int) ^ 7 = 10000000 by decide]; unfold trm; dsimp only; repeat' split
  all_goals omega
theorem wts7 (n : Int) (h : 1 ≤ n) : wtm (10 ^ 7) ((7 : Nat) + 1 : Int) n - wtm (10 ^ 7) ((7 : Nat) + 1 : Int) (n - 1) = if 10 ^ 7 ≤ n ∧ n < 10 ^ 7 * 10 then (7 : Int) + 1 else 0 := by
  rw [show (10 : Int) ^ 7 = 10000000 by decide]; unfold wtm; repeat' split
  all_goals omega
theorem trs8 (n d : Int) (h : 1 ≤ n) (h0 : 0 ≤ d) (h9 : d ≤ 9) : trm (10 ^ 8) n d - trm (10 ^ 8) (n - 1) d = hit (10 ^ 8) n d := by
  rw [show (10 : Int) ^ 8 = 100000000 by decide]; unfold trm hit; dsimp only; repeat' split
  all_goals omega
theorem trg8 (n d : Int) (h : 0 ≤ n) (h0 : 1 ≤ d) (h9 : d ≤ 9) : trm (10 ^ 8) n 0 ≤ trm (10 ^ 8) n d := by
  rw [show (10 : Int) ^ 8 = 100000000 by decide]; unfold trm; dsimp only; repeat' split
  all_goals omega
theorem wts8 (n : Int) (h : 1 ≤ n) : wtm (10 ^ 8) ((8 : Nat) + 1 : Int) n - wtm (10 ^ 8) ((8 : Nat) + 1 : Int) (n - 1) = if 10 ^ 8 ≤ n ∧ n < 10 ^ 8 * 10 then (8 : Int) + 1 else 0 := by
  rw [show (10 : Int) ^ 8 = 100000000 by decide]; unfold wtm; repeat' split
  all_goals omega
theorem trs9 (n d : Int) (h : 1 ≤ n) (h0 : 0 ≤ d) (h9 : d ≤ 9) : trm (10 ^ 9) n d - trm (10 ^ 9) (n - 1) d = hit (10 ^ 9) n d := by
  rw [show (10 : Int) ^ 9 = 1000000000 by decide]; unfold trm hit; dsimp only; repeat' split
  all_goals omega
theorem trg9 (n d : Int) (h : 0 ≤ n) (h0 : 1 ≤ d) (h9 : d ≤ 9) : trm (10 ^ 9) n 0 ≤ trm (10 ^ 9) n d := by
  rw [show (10 : Int) ^ 9 = 1000000000 by decide]; unfold trm; dsimp only; repeat' split
  all_goals omega
theorem wts9 (n : Int) (h : 1 ≤ n) : wtm (10 ^ 9) ((9 : Nat) + 1 : Int) n - wtm (10 ^ 9) ((9 : Nat) + 1 : Int) (n - 1) = if 10 ^ 9 ≤ n ∧ n < 10 ^ 9 * 10 then (9 : Int) + 1 else 0 := by
  rw [show (10 : Int) ^ 9 = 1000000000 by decide]; unfold wtm; repeat' split
  all_goals omega
theorem trs10 (n d : Int) (h : 1 ≤ n) (h0 : 0 ≤ d) (h9 : d ≤ 9) : trm (10 ^ 10) n d - trm (10 ^ 10) (n - 1) d = hit (10 ^ 10) n d := by
  rw [show (10 : Int) ^ 10 = 10000000000 by decide]; unfold trm hit; dsimp only; repeat' split
  all_goals omega
theorem trg10 (n d : Int) (h : 0 ≤ n) (h0 : 1 ≤ d) (h9 : d ≤ 9) : trm (10 ^ 10) n 0 ≤ trm (10 ^ 10) n d := by
  rw [show (10 : Int) ^ 10 = 10000000000 by decide]; unfold trm; dsimp only; repeat' split
  all_goals omega
theorem wts10 (n : Int) (h : 1 ≤ n) : wtm (10 ^ 10) ((10 : Nat) + 1 : Int) n - wtm (10 ^ 10) ((10 : Nat) + 1 : Int) (n - 1) = if 10 ^ 10 ≤ n ∧ n < 10 ^ 10 * 10 then (10 : Int) + 1 else 0 := by
  rw [show (10 : Int) ^ 10 = 10000000000 by decide]; unfold wtm; repeat' split
  all_goals omega
theorem trs11 (n d : Int) (h : 1 ≤ n) (h0 : 0 ≤ d) (h9 : d ≤ 9) : trm (10 ^ 11) n d - trm (10 ^ 11) (n - 1) d = hit (10 ^ 11) n d := by
  rw [show (10 : Int) ^ 11 = 100000000000 by decide]; unfold trm hit; dsimp only; repeat' split
  all_goals omega
theorem trg11 (n d : Int) (h : 0 ≤ n) (h0 : 1 ≤ d) (h9 : d ≤ 9) : trm (10 ^ 11) n 0 ≤ trm (10 ^ 11) n d := by
  rw [show (10 : Int) ^ 11 = 100000000000 by decide]; unfold trm; dsimp only; repeat' split
  all_goals omega
theorem wts11 (n : Int) (h : 1 ≤ n) : wtm (10 ^ 11) ((11 : Nat) + 1 : Int) n - wtm (10 ^ 11) ((11 : Nat) + 1 : Int) (n - 1) = if 10 ^ 11 ≤ n ∧ n < 10 ^ 11 * 10 then (11 : Int) + 1 else 0 := by
  rw [show (10 : Int) ^ 11 = 100000000000 by decide]; unfold wtm; repeat' split
  all_goals omega
theorem trs12 (n d : Int) (h : 1 ≤ n) (h0 : 0 ≤ d) (h9 : d ≤ 9) : trm (10 ^ 12) n d - trm (10 ^ 12) (n - 1) d = hit (10 ^ 12) n d := by
  rw [show (10 : Int) ^ 12 = 1000000000000 by decide]; unfold trm hit; dsimp only; repeat' split
  all_goals omega
theorem trg12 (n d : Int) (h : 0 ≤ n) (h0 : 1 ≤ d) (h9 : d ≤ 9) : trm (10 ^ 12) n 0 ≤ trm (10 ^ 12) n d := by
  rw [show (10 : Int) ^ 12 = 1000000000000 by decide]; unfold trm; dsimp only; repeat' split
  all_goals omega
theorem wts12 (n : Int) (h : 1 ≤ n) : wtm (10 ^ 12) ((12 : Nat) + 1 : Int) n - wtm (10 ^ 12) ((12 : Nat) + 1 : Int) (n - 1) = if 10 ^ 12 ≤ n ∧ n < 10 ^ 12 * 10 then (12 : Int) + 1 else 0 := by
  rw [show (10 : Int) ^ 12 = 1000000000000 by decide]; unfold wtm; repeat' split
  all_goals omega
theorem hit_sum (o : Int) (p q : Prop) [Decidable p] [Decidable q] (h0 : 0 ≤ o) (h9 : o ≤ 9) (hz : q → o = 0 → p) :
    (if o = 0 ∧ p ∧ q then (1 : Int) else 0) + (if o = 1 ∧ q then 1 else 0) + (if o = 2 ∧ q then 1 else 0) + (if o = 3 ∧ q then 1 else 0) + (if o = 4 ∧ q then 1 else 0) + (if o = 5 ∧ q then 1 else 0) + (if o = 6 ∧ q then 1 else 0) + (if o = 7 ∧ q then 1 else 0) + (if o = 8 ∧ q then 1 else 0) + (if o = 9 ∧ q then 1 else 0) = if q then 1 else 0 := by
  by_cases c : q
  · have hz' := hz c
    have : o = 0 ∨ o = 1 ∨ o = 2 ∨ o = 3 ∨ o = 4 ∨ o = 5 ∨ o = 6 ∨ o = 7 ∨ o = 8 ∨ o = 9 := by omega
    rcases this with rfl | rfl | rfl | rfl | rfl | rfl | rfl | rfl | rfl | rfl
    · have hp := hz' rfl
      simp [c, hp]
    all_goals simp [c]
  · simp [c]
theorem hit_pos (u n d : Int) (hd : d ≠ 0) : hit u n d = if n / u % 10 = d ∧ u ≤ n then 1 else 0 := by unfold hit; simp [hd]
theorem hit_zero (u n : Int) : hit u n 0 = if n / u % 10 = 0 ∧ 10 * u ≤ n ∧ u ≤ n then 1 else 0 := by unfold hit; simp
theorem hts (u n : Int) (hu : 1 ≤ u) (hn : 0 ≤ n) : hit u n 0 + hit u n 1 + hit u n 2 + hit u n 3 + hit u n 4 + hit u n 5 + hit u n 6 + hit u n 7 + hit u n 8 + hit u n 9 = if u ≤ n then 1 else 0 := by
  rw [hit_zero, hit_pos u n 1 (by decide), hit_pos u n 2 (by decide), hit_pos u n 3 (by decide), hit_pos u n 4 (by decide), hit_pos u n 5 (by decide), hit_pos u n 6 (by decide), hit_pos u n 7 (by decide), hit_pos u n 8 (by decide), hit_pos u n 9 (by decide)]
  refine hit_sum (n / u % 10) (10 * u ≤ n) (u ≤ n) (by omega) (by omega) (fun h1 h2 => ?_)
  have h3 : 1 ≤ n / u := (Int.le_ediv_iff_mul_le (by omega)).mpr (by omega)
  have h4 : 10 ≤ n / u := by omega
  exact (Int.le_ediv_iff_mul_le (by omega)).mp h4
theorem tel (u v n g : Int) (h : u ≤ v) : (if u ≤ n ∧ n < v then g else 0) = g * (if u ≤ n then 1 else 0) - g * (if v ≤ n then 1 else 0) := by
  by_cases c : u ≤ n <;> by_cases c2 : v ≤ n
  · rw [if_neg (by omega), if_pos c, if_pos c2]; omega
  · rw [if_pos (by omega), if_pos c, if_neg c2]; omega
  · omega
  · rw [if_neg (by omega), if_neg c, if_neg c2]; omega
def hitsN (n d : Int) : Int := hit (10 ^ 0) n d + hit (10 ^ 1) n d + hit (10 ^ 2) n d + hit (10 ^ 3) n d + hit (10 ^ 4) n d + hit (10 ^ 5) n d + hit (10 ^ 6) n d + hit (10 ^ 7) n d + hit (10 ^ 8) n d + hit (10 ^ 9) n d + hit (10 ^ 10) n d + hit (10 ^ 11) n d + hit (10 ^ 12) n d
def ndN (n : Int) : Int := (if (10 : Int) ^ 0 ≤ n then 1 else 0) + (if (10 : Int) ^ 1 ≤ n then 1 else 0) + (if (10 : Int) ^ 2 ≤ n then 1 else 0) + (if (10 : Int) ^ 3 ≤ n then 1 else 0) + (if (10 : Int) ^ 4 ≤ n then 1 else 0) + (if (10 : Int) ^ 5 ≤ n then 1 else 0) + (if (10 : Int) ^ 6 ≤ n then 1 else 0) + (if (10 : Int) ^ 7 ≤ n then 1 else 0) + (if (10 : Int) ^ 8 ≤ n then 1 else 0) + (if (10 : Int) ^ 9 ≤ n then 1 else 0) + (if (10 : Int) ^ 10 ≤ n then 1 else 0) + (if (10 : Int) ^ 11 ≤ n then 1 else 0) + (if (10 : Int) ^ 12 ≤ n then 1 else 0)
theorem cnt_step (n d : Int) (h : 1 ≤ n) (h0 : 0 ≤ d) (h9 : d ≤ 9) : cntO n d - cntO (n - 1) d = hitsN n d := by
  have e0 := trs0 n d h h0 h9
  have e1 := trs1 n d h h0 h9
  have e2 := trs2 n d h h0 h9
  have e3 := trs3 n d h h0 h9
  have e4 := trs4 n d h h0 h9
  have e5 := trs5 n d h h0 h9
  have e6 := trs6 n d h h0 h9
  have e7 := trs7 n d h h0 h9
  have e8 := trs8 n d h h0 h9
  have e9 := trs9 n d h h0 h9
  have e10 := trs10 n d h h0 h9
  have e11 := trs11 n d h h0 h9
  have e12 := trs12 n d h h0 h9
  unfold cntO hitsN
  simp only [sumT]
  omega
theorem cnt_ge0 (n d : Int) (h : 0 ≤ n) (h0 : 1 ≤ d) (h9 : d ≤ 9) : cntO n 0 ≤ cntO n d := by
  have e0 := trg0 n d h h0 h9
  have e1 := trg1 n d h h0 h9
  have e2 := trg2 n d h h0 h9
  have e3 := trg3 n d h h0 h9
  have e4 := trg4 n d h h0 h9
  have e5 := trg5 n d h h0 h9
  have e6 := trg6 n d h h0 h9
  have e7 := trg7 n d h h0 h9
  have e8 := trg8 n d h h0 h9
  have e9 := trg9 n d h h0 h9
  have e10 := trg10 n d h h0 h9
  have e11 := trg11 n d h h0 h9
  have e12 := trg12 n d h h0 h9
  unfold cntO
  simp only [sumT]
  omega
theorem wrt_step (n : Int) (h : 1 ≤ n) (hN : n < 10 ^ 13) : wrtO n - wrtO (n - 1) = ndN n := by
  have e0 := wts0 n h
  rw [show (10 : Int) ^ 0 * 10 = 10 ^ 1 by decide, tel _ _ n _ (p10_mono (by decide))] at e0
  have e1 := wts1 n h
  rw [show (10 : Int) ^ 1 * 10 = 10 ^ 2 by decide, tel _ _ n _ (p10_mono (by decide))] at e1
  have e2 := wts2 n h
  rw [show (10 : Int) ^ 2 * 10 = 10 ^ 3 by decide, tel _ _ n _ (p10_mono (by decide))] at e2
  have e3 := wts3 n h
  rw [show (10 : Int) ^ 3 * 10 = 10 ^ 4 by decide, tel _ _ n _ (p10_mono (by decide))] at e3
  have e4 := wts4 n h
  rw [show (10 : Int) ^ 4 * 10 = 10 ^ 5 by decide, tel _ _ n _ (p10_mono (by decide))] at e4
  have e5 := wts5 n h
  rw [show (10 : Int) ^ 5 * 10 = 10 ^ 6 by decide, tel _ _ n _ (p10_mono (by decide))] at e5
  have e6 := wts6 n h
  rw [show (10 : Int) ^ 6 * 10 = 10 ^ 7 by decide, tel _ _ n _ (p10_mono (by decide))] at e6
  have e7 := wts7 n h
  rw [show (10 : Int) ^ 7 * 10 = 10 ^ 8 by decide, tel _ _ n _ (p10_mono (by decide))] at e7
  have e8 := wts8 n h
  rw [show (10 : Int) ^ 8 * 10 = 10 ^ 9 by decide, tel _ _ n _ (p10_mono (by decide))] at e8
  have e9 := wts9 n h
  rw [show (10 : Int) ^ 9 * 10 = 10 ^ 10 by decide, tel _ _ n _ (p10_mono (by decide))] at e9
  have e10 := wts10 n h
  rw [show (10 : Int) ^ 10 * 10 = 10 ^ 11 by decide, tel _ _ n _ (p10_mono (by decide))] at e10
  have e11 := wts11 n h
  rw [show (10 : Int) ^ 11 * 10 = 10 ^ 12 by decide, tel _ _ n _ (p10_mono (by decide))] at e11
  have e12 := wts12 n h
  rw [show (10 : Int) ^ 12 * 10 = 10 ^ 13 by decide, tel _ _ n _ (p10_mono (by decide))] at e12
  have e : (if (10 : Int) ^ 13 ≤ n then (1 : Int) else 0) = 0 := if_neg (by omega)
  rw [e] at e12
  unfold wrtO ndN
  simp only [sumW]
  generalize (if (10 : Int) ^ 0 ≤ n then (1 : Int) else 0) = x0 at *
  generalize (if (10 : Int) ^ 1 ≤ n then (1 : Int) else 0) = x1 at *
  generalize (if (10 : Int) ^ 2 ≤ n then (1 : Int) else 0) = x2 at *
  generalize (if (10 : Int) ^ 3 ≤ n then (1 : Int) else 0) = x3 at *
  generalize (if (10 : Int) ^ 4 ≤ n then (1 : Int) else 0) = x4 at *
  generalize (if (10 : Int) ^ 5 ≤ n then (1 : Int) else 0) = x5 at *
  generalize (if (10 : Int) ^ 6 ≤ n then (1 : Int) else 0) = x6 at *
  generalize (if (10 : Int) ^ 7 ≤ n then (1 : Int) else 0) = x7 at *
  generalize (if (10 : Int) ^ 8 ≤ n then (1 : Int) else 0) = x8 at *
  generalize (if (10 : Int) ^ 9 ≤ n then (1 : Int) else 0) = x9 at *
  generalize (if (10 : Int) ^ 10 ≤ n then (1 : Int) else 0) = x10 at *
  generalize (if (10 : Int) ^ 11 ≤ n then (1 : Int) else 0) = x11 at *
  generalize (if (10 : Int) ^ 12 ≤ n then (1 : Int) else 0) = x12 at *
  omega
theorem hits_sum (n : Int) (h : 0 ≤ n) : hitsN n 0 + hitsN n 1 + hitsN n 2 + hitsN n 3 + hitsN n 4 + hitsN n 5 + hitsN n 6 + hitsN n 7 + hitsN n 8 + hitsN n 9 = ndN n := by
  have e0 := hts (10 ^ 0) n (p10_pos 0) h
  have e1 := hts (10 ^ 1) n (p10_pos 1) h
  have e2 := hts (10 ^ 2) n (p10_pos 2) h
  have e3 := hts (10 ^ 3) n (p10_pos 3) h
  have e4 := hts (10 ^ 4) n (p10_pos 4) h
  have e5 := hts (10 ^ 5) n (p10_pos 5) h
  have e6 := hts (10 ^ 6) n (p10_pos 6) h
  have e7 := hts (10 ^ 7) n (p10_pos 7) h
  have e8 := hts (10 ^ 8) n (p10_pos 8) h
  have e9 := hts (10 ^ 9) n (p10_pos 9) h
  have e10 := hts (10 ^ 10) n (p10_pos 10) h
  have e11 := hts (10 ^ 11) n (p10_pos 11) h
  have e12 := hts (10 ^ 12) n (p10_pos 12) h
  unfold hitsN ndN
  omega
theorem cnt_zero (d : Int) (h0 : 0 ≤ d) : cntO 0 d = 0 := by
  unfold cntO; rw [sumT_over (Int.le_refl 0) h0 0 (by decide) 13 (by decide)]; rfl
theorem wrt_zero : wrtO 0 = 0 := by
  unfold wrtO; rw [sumW_over 0 (by decide) 13 (by decide)]; rfl
theorem cnt_nonneg (n d : Int) (hn : 0 ≤ n) (h0 : 0 ≤ d) : 0 ≤ cntO n d := (sumT_bd hn h0 13).1
theorem cnt_all : ∀ m : Nat, (m : Int) < 10 ^ 13 → cntO m 0 + cntO m 1 + cntO m 2 + cntO m 3 + cntO m 4 + cntO m 5 + cntO m 6 + cntO m 7 + cntO m 8 + cntO m 9 = wrtO m := by
  intro m
  induction m with
  | zero =>
    intro _
    rw [show ((0 : Nat) : Int) = 0 from rfl, cnt_zero 0 (by decide), cnt_zero 1 (by decide), cnt_zero 2 (by decide), cnt_zero 3 (by decide), cnt_zero 4 (by decide), cnt_zero 5 (by decide), cnt_zero 6 (by decide), cnt_zero 7 (by decide), cnt_zero 8 (by decide), cnt_zero 9 (by decide), wrt_zero]; rfl
  | succ m ih =>
    intro h
    have i0 := ih (by omega)
    have w0 := wrt_step ((m + 1 : Nat) : Int) (by omega) h
    have s0 := hits_sum ((m + 1 : Nat) : Int) (by omega)
    have c0 := cnt_step ((m + 1 : Nat) : Int) 0 (by omega) (by decide) (by decide)
    have c1 := cnt_step ((m + 1 : Nat) : Int) 1 (by omega) (by decide) (by decide)
    have c2 := cnt_step ((m + 1 : Nat) : Int) 2 (by omega) (by decide) (by decide)
    have c3 := cnt_step ((m + 1 : Nat) : Int) 3 (by omega) (by decide) (by decide)
    have c4 := cnt_step ((m + 1 : Nat) : Int) 4 (by omega) (by decide) (by decide)
    have c5 := cnt_step ((m + 1 : Nat) : Int) 5 (by omega) (by decide) (by decide)
    have c6 := cnt_step ((m + 1 : Nat) : Int) 6 (by omega) (by decide) (by decide)
    have c7 := cnt_step ((m + 1 : Nat) : Int) 7 (by omega) (by decide) (by decide)
    have c8 := cnt_step ((m + 1 : Nat) : Int) 8 (by omega) (by decide) (by decide)
    have c9 := cnt_step ((m + 1 : Nat) : Int) 9 (by omega) (by decide) (by decide)
    rw [show ((m + 1 : Nat) : Int) - 1 = (m : Int) by omega] at w0 c0 c1 c2 c3 c4 c5 c6 c7 c8 c9
    omega
theorem hit_01 (u n d : Int) : 0 ≤ hit u n d ∧ hit u n d ≤ 1 := by unfold hit; split <;> omega
theorem hits_nonneg (n d : Int) : 0 ≤ hitsN n d := by
  have e0 := hit_01 (10 ^ 0) n d
  have e1 := hit_01 (10 ^ 1) n d
  have e2 := hit_01 (10 ^ 2) n d
  have e3 := hit_01 (10 ^ 3) n d
  have e4 := hit_01 (10 ^ 4) n d
  have e5 := hit_01 (10 ^ 5) n d
  have e6 := hit_01 (10 ^ 6) n d
  have e7 := hit_01 (10 ^ 7) n d
  have e8 := hit_01 (10 ^ 8) n d
  have e9 := hit_01 (10 ^ 9) n d
  have e10 := hit_01 (10 ^ 10) n d
  have e11 := hit_01 (10 ^ 11) n d
  have e12 := hit_01 (10 ^ 12) n d
  unfold hitsN
  omega
theorem nd_bd (n : Int) (h : 1 ≤ n) : 1 ≤ ndN n ∧ ndN n ≤ 13 := by
  have h0 : (if (10 : Int) ^ 0 ≤ n then (1 : Int) else 0) = 1 := if_pos (by rw [show (10 : Int) ^ 0 = 1 by decide]; omega)
  have e1 : 0 ≤ (if (10 : Int) ^ 1 ≤ n then (1 : Int) else 0) ∧ (if (10 : Int) ^ 1 ≤ n then (1 : Int) else 0) ≤ 1 := by split <;> omega
  have e2 : 0 ≤ (if (10 : Int) ^ 2 ≤ n then (1 : Int) else 0) ∧ (if (10 : Int) ^ 2 ≤ n then (1 : Int) else 0) ≤ 1 := by split <;> omega
  have e3 : 0 ≤ (if (10 : Int) ^ 3 ≤ n then (1 : Int) else 0) ∧ (if (10 : Int) ^ 3 ≤ n then (1 : Int) else 0) ≤ 1 := by split <;> omega
  have e4 : 0 ≤ (if (10 : Int) ^ 4 ≤ n then (1 : Int) else 0) ∧ (if (10 : Int) ^ 4 ≤ n then (1 : Int) else 0) ≤ 1 := by split <;> omega
  have e5 : 0 ≤ (if (10 : Int) ^ 5 ≤ n then (1 : Int) else 0) ∧ (if (10 : Int) ^ 5 ≤ n then (1 : Int) else 0) ≤ 1 := by split <;> omega
  have e6 : 0 ≤ (if (10 : Int) ^ 6 ≤ n then (1 : Int) else 0) ∧ (if (10 : Int) ^ 6 ≤ n then (1 : Int) else 0) ≤ 1 := by split <;> omega
  have e7 : 0 ≤ (if (10 : Int) ^ 7 ≤ n then (1 : Int) else 0) ∧ (if (10 : Int) ^ 7 ≤ n then (1 : Int) else 0) ≤ 1 := by split <;> omega
  have e8 : 0 ≤ (if (10 : Int) ^ 8 ≤ n then (1 : Int) else 0) ∧ (if (10 : Int) ^ 8 ≤ n then (1 : Int) else 0) ≤ 1 := by split <;> omega
  have e9 : 0 ≤ (if (10 : Int) ^ 9 ≤ n then (1 : Int) else 0) ∧ (if (10 : Int) ^ 9 ≤ n then (1 : Int) else 0) ≤ 1 := by split <;> omega
  have e10 : 0 ≤ (if (10 : Int) ^ 10 ≤ n then (1 : Int) else 0) ∧ (if (10 : Int) ^ 10 ≤ n then (1 : Int) else 0) ≤ 1 := by split <;> omega
  have e11 : 0 ≤ (if (10 : Int) ^ 11 ≤ n then (1 : Int) else 0) ∧ (if (10 : Int) ^ 11 ≤ n then (1 : Int) else 0) ≤ 1 := by split <;> omega
  have e12 : 0 ≤ (if (10 : Int) ^ 12 ≤ n then (1 : Int) else 0) ∧ (if (10 : Int) ^ 12 ≤ n then (1 : Int) else 0) ≤ 1 := by split <;> omega
  unfold ndN
  rw [h0]
  generalize (if (10 : Int) ^ 1 ≤ n then (1 : Int) else 0) = x1 at *
  generalize (if (10 : Int) ^ 2 ≤ n then (1 : Int) else 0) = x2 at *
  generalize (if (10 : Int) ^ 3 ≤ n then (1 : Int) else 0) = x3 at *
  generalize (if (10 : Int) ^ 4 ≤ n then (1 : Int) else 0) = x4 at *
  generalize (if (10 : Int) ^ 5 ≤ n then (1 : Int) else 0) = x5 at *
  generalize (if (10 : Int) ^ 6 ≤ n then (1 : Int) else 0) = x6 at *
  generalize (if (10 : Int) ^ 7 ≤ n then (1 : Int) else 0) = x7 at *
  generalize (if (10 : Int) ^ 8 ≤ n then (1 : Int) else 0) = x8 at *
  generalize (if (10 : Int) ^ 9 ≤ n then (1 : Int) else 0) = x9 at *
  generalize (if (10 : Int) ^ 10 ≤ n then (1 : Int) else 0) = x10 at *
  generalize (if (10 : Int) ^ 11 ≤ n then (1 : Int) else 0) = x11 at *
  generalize (if (10 : Int) ^ 12 ≤ n then (1 : Int) else 0) = x12 at *
  omega

/-! ### digit sums, and how many numbers below one have a sum -/
def ds (n : Nat) : Int := if h : n < 10 then (n : Int) else ((n % 10 : Nat) : Int) + ds (n / 10)
termination_by n
decreasing_by omega
theorem ds_small {n : Nat} (h : n < 10) : ds n = n := by rw [ds, dif_pos h]
theorem ds_step (n : Nat) : ds n = ((n % 10 : Nat) : Int) + ds (n / 10) := by
  by_cases h : n < 10
  · rw [ds_small h, Nat.div_eq_of_lt h, Nat.mod_eq_of_lt h, ds_small (by omega)]; simp
  · rw [ds, dif_neg h]
theorem ds_cons (a d : Nat) (h : d < 10) : ds (10 * a + d) = ds a + d := by
  rw [ds_step, show (10 * a + d) % 10 = d by omega, show (10 * a + d) / 10 = a by omega]; omega
theorem ds_nonneg (n : Nat) : 0 ≤ ds n := by
  induction n using Nat.strongRecOn with
  | _ n ih =>
    by_cases h : n < 10
    · rw [ds_small h]; omega
    · rw [ds_step]; have := ih (n / 10) (by omega); omega
theorem ds_pos {n : Nat} (h : 0 < n) : 0 < ds n := by
  induction n using Nat.strongRecOn with
  | _ n ih =>
    by_cases h1 : n < 10
    · rw [ds_small h1]; omega
    · rw [ds_step]; have := ih (n / 10) (by omega) (by omega); omega
theorem ds_le (k : Nat) : ∀ n, n < 10 ^ k → ds n ≤ 9 * k := by
  induction k with
  | zero => intro n h; have : n = 0 := by simpa using h
            subst this; rw [ds_small (by omega)]; omega
  | succ k ih =>
    intro n h
    rw [ds_step]
    have := ih (n / 10) (by rw [Nat.pow_succ] at h; omega)
    omega
theorem ds_split (k : Nat) : ∀ n, ds n = ds (n % 10 ^ k) + ds (n / 10 ^ k) := by
  induction k with
  | zero => intro n; simp [ds_small, Nat.mod_one]
  | succ k ih =>
    intro n
    rw [ds_step n, ih (n / 10), ds_step (n % 10 ^ (k + 1))]
    have h1 : n % 10 ^ (k + 1) % 10 = n % 10 := Nat.mod_mod_of_dvd n ⟨10 ^ k, by rw [Nat.pow_succ, Nat.mul_comm]⟩
    have h2 : n % 10 ^ (k + 1) / 10 = n / 10 % 10 ^ k := by rw [Nat.pow_succ, Nat.mul_comm, Nat.mod_mul_right_div_self]
    have h3 : n / 10 / 10 ^ k = n / 10 ^ (k + 1) := by rw [Nat.div_div_eq_div_mul, Nat.pow_succ, Nat.mul_comm]
    rw [h1, h2, h3]; omega
theorem nDig_le (n : Nat) : ∀ k, 0 < k → n < 10 ^ k → Lib.nDigits n ≤ k := by
  induction n using Nat.strongRecOn with
  | _ n ih =>
    intro k hk h
    by_cases c : n < 10
    · rw [Lib.nDigits_small c]; exact hk
    · rw [Lib.nDigits_big c]
      obtain ⟨k, rfl⟩ : ∃ j, k = j + 1 := ⟨k - 1, by omega⟩
      have hk1 : 0 < k := by
        rcases Nat.eq_zero_or_pos k with e | e
        · subst e; simp at h; omega
        · exact e
      have := ih (n / 10) (by omega) k hk1 (by rw [Nat.pow_succ] at h; omega)
      omega

/-! ### the digits of a number, and the hits of its counts -/
theorem hitd (u n : Int) (hu : 1 ≤ u) (hn : 0 ≤ n) : hit u n 1 + 2 * hit u n 2 + 3 * hit u n 3 + 4 * hit u n 4 + 5 * hit u n 5 + 6 * hit u n 6 + 7 * hit u n 7 + 8 * hit u n 8 + 9 * hit u n 9 = n / u % 10 := by
  rw [hit_pos u n 1 (by decide), hit_pos u n 2 (by decide), hit_pos u n 3 (by decide), hit_pos u n 4 (by decide), hit_pos u n 5 (by decide), hit_pos u n 6 (by decide), hit_pos u n 7 (by decide), hit_pos u n 8 (by decide), hit_pos u n 9 (by decide)]
  by_cases c : u ≤ n
  · obtain ⟨o, ho⟩ : ∃ o, n / u % 10 = o := ⟨_, rfl⟩
    have h : o = 0 ∨ o = 1 ∨ o = 2 ∨ o = 3 ∨ o = 4 ∨ o = 5 ∨ o = 6 ∨ o = 7 ∨ o = 8 ∨ o = 9 := by omega
    rw [ho]
    rcases h with rfl | rfl | rfl | rfl | rfl | rfl | rfl | rfl | rfl | rfl <;> simp [c]
  · have e : n / u = 0 := Int.ediv_eq_zero_of_lt hn (by omega)
    simp [c, e]
def pSum (n : Int) : Nat → Int
  | 0 => 0
  | i + 1 => pSum n i + n / 10 ^ i % 10
theorem hits_d (n : Int) (hn : 0 ≤ n) : hitsN n 1 + 2 * hitsN n 2 + 3 * hitsN n 3 + 4 * hitsN n 4 + 5 * hitsN n 5 + 6 * hitsN n 6 + 7 * hitsN n 7 + 8 * hitsN n 8 + 9 * hitsN n 9 = pSum n 13 := by
  have e0 := hitd (10 ^ 0) n (p10_pos 0) hn
  have e1 := hitd (10 ^ 1) n (p10_pos 1) hn
  have e2 := hitd (10 ^ 2) n (p10_pos 2) hn
  have e3 := hitd (10 ^ 3) n (p10_pos 3) hn
  have e4 := hitd (10 ^ 4) n (p10_pos 4) hn
  have e5 := hitd (10 ^ 5) n (p10_pos 5) hn
  have e6 := hitd (10 ^ 6) n (p10_pos 6) hn
  have e7 := hitd (10 ^ 7) n (p10_pos 7) hn
  have e8 := hitd (10 ^ 8) n (p10_pos 8) hn
  have e9 := hitd (10 ^ 9) n (p10_pos 9) hn
  have e10 := hitd (10 ^ 10) n (p10_pos 10) hn
  have e11 := hitd (10 ^ 11) n (p10_pos 11) hn
  have e12 := hitd (10 ^ 12) n (p10_pos 12) hn
  unfold hitsN
  simp only [pSum]
  rw [← e0, ← e1, ← e2, ← e3, ← e4, ← e5, ← e6, ← e7, ← e8, ← e9, ← e10, ← e11, ← e12]
  clear e0 e1 e2 e3 e4 e5 e6 e7 e8 e9 e10 e11 e12
  omega
theorem pow_cast (i : Nat) : ((10 ^ i : Nat) : Int) = (10 : Int) ^ i := by simp
theorem pSum_ds (n : Nat) : ∀ k, ds n = pSum (n : Int) k + ds (n / 10 ^ k) := by
  intro k
  induction k with
  | zero => simp [pSum]
  | succ k ih =>
    rw [ih, pSum, ds_step (n / 10 ^ k), Nat.div_div_eq_div_mul, show 10 ^ k * 10 = 10 ^ (k + 1) from (Nat.pow_succ ..).symm, ← pow_cast k]
    have : ((n / 10 ^ k % 10 : Nat) : Int) = (n : Int) / ((10 ^ k : Nat) : Int) % 10 := by omega
    omega
theorem pSum_all (n : Nat) (h : n < 10 ^ 13) : pSum (n : Int) 13 = ds n := by
  have := pSum_ds n 13
  rw [Nat.div_eq_of_lt h, ds_small (by decide : 0 < 10)] at this
  omega
def hSum (n d : Int) : Nat → Int
  | 0 => 0
  | i + 1 => hSum n d i + hit (10 ^ i) n d
theorem hits_h (n d : Int) : hitsN n d = hSum n d 13 := by
  unfold hitsN; simp only [hSum]; omega
theorem hit_over (u n d : Int) (h : n < u) : hit u n d = 0 := by
  unfold hit; exact if_neg (fun c => by omega)
theorem hSum_over {n d : Int} (i : Nat) (h : n < 10 ^ i) : ∀ j, i ≤ j → hSum n d j = hSum n d i := by
  intro j hj
  induction hj with
  | refl => rfl
  | step hj ih =>
    rename_i m
    have := p10_mono hj
    rw [hSum, ih, hit_over _ _ _ (by omega)]; omega
theorem hSum_bd (n d : Int) : ∀ i : Nat, 0 ≤ hSum n d i ∧ hSum n d i ≤ i := by
  intro i
  induction i with
  | zero => simp [hSum]
  | succ i ih => have := hit_01 (10 ^ i) n d; rw [hSum]; omega
theorem hit_in (u n d : Int) (h0 : 0 ≤ n) (hu : 1 ≤ u) (h : u ≤ n) : hit u n d = if n / u % 10 = d then 1 else 0 := by
  by_cases c : n / u % 10 = d
  · rw [if_pos c]
    unfold hit
    refine if_pos ⟨c, fun e => ?_, h⟩
    have h1 : 1 ≤ n / u := (Int.le_ediv_iff_mul_le (by omega)).mpr (by omega)
    have h2 : 10 ≤ n / u := by omega
    have := (Int.le_ediv_iff_mul_le (show 0 < u by omega)).mp h2
    omega
  · rw [if_neg c]; unfold hit; exact if_neg (fun e => c e.1)
theorem div_pow_step (n : Int) (i : Nat) (hn : 0 ≤ n) : n / 10 ^ i / 10 = n / 10 ^ (i + 1) := by
  have := p10_pos i
  rw [Int.ediv_ediv_of_nonneg (by omega), Int.pow_succ]
/-! ### how many digits there are -/
def ndT (n : Int) : Nat → Int
  | 0 => 0
  | i + 1 => ndT n i + if 10 ^ i ≤ n then 1 else 0
theorem nd_h (n : Int) : ndN n = ndT n 13 := by
  unfold ndN; simp only [ndT, Int.zero_add]
theorem nDigits_lb : ∀ (k n : Nat), 10 ^ k ≤ n → k < Lib.nDigits n := by
  intro k
  induction k with
  | zero =>
    intro n h
    by_cases c : n < 10
    · rw [Lib.nDigits_small c]; omega
    · rw [Lib.nDigits_big c]; omega
  | succ k ih =>
    intro n h
    have hp : 0 < 10 ^ k := Nat.pow_pos (by decide)
    rw [Nat.pow_succ] at h
    have c : ¬ n < 10 := by omega
    have := ih (n / 10) (by omega)
    rw [Lib.nDigits_big c]; omega
theorem ndT_eq (n : Nat) (hn : 1 ≤ n) : ∀ k : Nat, ndT (n : Int) k = ((min k (Lib.nDigits n) : Nat) : Int) := by
  intro k
  induction k with
  | zero => simp [ndT]
  | succ k ih =>
    rw [ndT, ih, ← pow_cast k]
    by_cases c : 10 ^ k ≤ n
    · have := nDigits_lb k n c
      rw [if_pos (by omega)]; omega
    · rw [if_neg (by omega)]
      have h1 : Lib.nDigits n ≤ k := by
        rcases Nat.eq_zero_or_pos k with e | e
        · subst e; exact absurd hn (by simpa using c)
        · exact nDig_le n k e (by omega)
      omega
theorem nd_eq (n : Nat) (hn : 1 ≤ n) (h : n < 10 ^ 13) : ndN (n : Int) = (Lib.nDigits n : Int) := by
  have := nDig_le n 13 (by decide) h
  rw [nd_h, ndT_eq n hn 13]; omega
/-! ### both counts rise -/
theorem wtm_mono {u g x y : Int} (hu : 1 ≤ u) (hg : 0 ≤ g) (h : x ≤ y) : wtm u g x ≤ wtm u g y := by
  unfold wtm
  by_cases c : u ≤ x
  · rw [if_pos c, if_pos (by omega)]
    exact Int.mul_le_mul_of_nonneg_left (by omega) hg
  · rw [if_neg c]
    by_cases c2 : u ≤ y
    · rw [if_pos c2]; exact Int.mul_nonneg hg (by omega)
    · rw [if_neg c2]; exact Int.le_refl 0
theorem sumW_mono {x y : Int} (h : x ≤ y) : ∀ i : Nat, sumW x i ≤ sumW y i := by
  intro i
  induction i with
  | zero => exact Int.le_refl _
  | succ i ih => have := wtm_mono (g := (i : Int) + 1) (p10_pos i) (by omega) h; rw [sumW, sumW]; omega
theorem wrt_mono {x y : Int} (h : x ≤ y) : wrtO x ≤ wrtO y := sumW_mono h 13
theorem wrt_lt {n : Int} (h : 1 ≤ n) (hN : n < 10 ^ 13) : wrtO (n - 1) < wrtO n ∧ wrtO n ≤ wrtO (n - 1) + 13 := by
  have h1 := wrt_step n h hN
  have h2 := nd_bd n h
  omega
theorem cnt_mono {d : Int} (h0 : 0 ≤ d) (h9 : d ≤ 9) : ∀ (m : Nat) (x : Int), 0 ≤ x → cntO x d ≤ cntO (x + m) d := by
  intro m
  induction m with
  | zero => intro x _; rw [show x + ((0 : Nat) : Int) = x by omega]; exact Int.le_refl _
  | succ m ih =>
    intro x hx
    have h1 := ih x hx
    have h2 := cnt_step (x + (m : Int) + 1) d (by omega) h0 h9
    have h3 := hits_nonneg (x + (m : Int) + 1) d
    rw [show x + (m : Int) + 1 - 1 = x + m by omega] at h2
    rw [show x + ((m + 1 : Nat) : Int) = x + m + 1 by omega]
    omega
theorem cnt_le {d x y : Int} (h0 : 0 ≤ d) (h9 : d ≤ 9) (hx : 0 ≤ x) (h : x ≤ y) : cntO x d ≤ cntO y d := by
  have := cnt_mono h0 h9 (y - x).toNat x hx
  rw [show x + ((y - x).toNat : Int) = y by omega] at this
  exact this
theorem wrt_top : wrtO 1000000000000 = 11888888888902 := by decide

/-! ### the least number of a test that stays true -/
theorem go_find (p : Int → Option Bool) (q : Int → Bool) (hm : ∀ x y, x ≤ y → q x = true → q y = true) : ∀ (c : Nat) (lo hi : Int), 0 ≤ lo → hi ≤ 4000000000000 → lo ≤ hi → hi - lo < 2 ^ c → (∀ x, lo ≤ x → x < hi → p x = some (q x)) →
    ∃ r, impl_least.go p (c + 1) lo hi = some r ∧ lo ≤ r ∧ r ≤ hi ∧ (∀ x, lo ≤ x → x < r → q x = false) ∧ (r < hi → q r = true) := by
  intro c
  induction c with
  | zero =>
    intro lo hi h0 h4 hle hd hp
    have hd1 : hi - lo < 1 := hd
    refine ⟨lo, ?_, Int.le_refl _, hle, fun x h1 h2 => by omega, fun h => by omega⟩
    rw [impl_least.go, if_neg (by omega)]
  | succ c ih =>
    intro lo hi h0 h4 hle hd hp
    rw [Int.pow_succ] at hd
    by_cases hlt : lo < hi
    · have em : wrap64 (Int.tdiv (wrap64 (lo + hi)) 2) = (lo + hi) / 2 := by
        rw [wrap_of (x := lo + hi) (by omega) (by omega), Int.tdiv_eq_ediv_of_nonneg (by omega), wrap_of (by omega) (by omega)]
      obtain ⟨m, hmd⟩ : ∃ m, m = (lo + hi) / 2 := ⟨_, rfl⟩
      have hpm := hp m (by omega) (by omega)
      cases hq : q m with
      | true =>
        obtain ⟨r, h1, h2, h3, h5, h6⟩ := ih lo m h0 (by omega) (by omega) (by omega) (fun x a b => hp x a (by omega))
        refine ⟨r, ?_, h2, by omega, h5, fun h => ?_⟩
        · rw [impl_least.go, if_pos hlt, em, ← hmd, hpm, Option.bind_some, if_pos hq]; exact h1
        · by_cases e : r = m
          · rw [e]; exact hq
          · exact h6 (by omega)
      | false =>
        obtain ⟨r, h1, h2, h3, h5, h6⟩ := ih (m + 1) hi (by omega) h4 (by omega) (by omega) (fun x a b => hp x (by omega) b)
        refine ⟨r, ?_, by omega, h3, fun x a b => ?_, h6⟩
        · rw [impl_least.go, if_pos hlt, em, ← hmd, hpm, Option.bind_some, if_neg (by rw [hq]; decide), wrap_of (x := m + 1) (by omega) (by omega)]; exact h1
        · by_cases e : m + 1 ≤ x
          · exact h5 x e b
          · cases hx : q x with
            | false => rfl
            | true => rw [hm x m (by omega) hx] at hq; cases hq
    · refine ⟨lo, ?_, Int.le_refl _, hle, fun x h1 h2 => by omega, fun h => by omega⟩
      rw [impl_least.go, if_neg hlt]

/-! ### rounds that serve a whole range -/
theorem ev_unif {α : Type} (g : Nat → Int → Option α) (q : Int → α) (lo : Int) : ∀ (m : Nat), (∀ x, lo ≤ x → x < lo + m → Ev (fun k => g k x) (q x)) → ∃ K, ∀ k, K ≤ k → ∀ x, lo ≤ x → x < lo + m → g k x = some (q x) := by
  intro m
  induction m with
  | zero => intro _; exact ⟨0, fun k _ x h1 h2 => by omega⟩
  | succ m ih =>
    intro h
    obtain ⟨K1, h1⟩ := ih (fun x a b => h x a (by omega))
    obtain ⟨K2, h2⟩ := h (lo + m) (by omega) (by omega)
    refine ⟨max K1 K2, fun k hk x a b => ?_⟩
    by_cases e : x = lo + m
    · subst e; exact h2 k (by omega)
    · exact h1 k (by omega) x a (by omega)
theorem least_uniq {q : Int → Bool} {lo hi r s : Int} (h1 : lo ≤ r) (_h2 : r ≤ hi) (h3 : ∀ x, lo ≤ x → x < r → q x = false) (h4 : r < hi → q r = true) (g1 : lo ≤ s) (_g2 : s ≤ hi) (g3 : ∀ x, lo ≤ x → x < s → q x = false) (g4 : s < hi → q s = true) : r = s := by
  rcases Int.lt_trichotomy r s with h | h | h
  · have := g3 r h1 h; rw [h4 (by omega)] at this; cases this
  · exact h
  · have := h3 s g1 h; rw [g4 (by omega)] at this; cases this
theorem least_ev (g : Nat → Int → Option Bool) (q : Int → Bool) (hm : ∀ x y, x ≤ y → q x = true → q y = true) (lo hi : Int) (h0 : 0 ≤ lo) (h4 : hi ≤ 1000000000001) (hle : lo ≤ hi) (hp : ∀ x, lo ≤ x → x < hi → Ev (fun k => g k x) (q x)) :
    ∃ r, Ev (fun k => impl_least.go (g k) k lo hi) r ∧ lo ≤ r ∧ r ≤ hi ∧ (∀ x, lo ≤ x → x < r → q x = false) ∧ (r < hi → q r = true) := by
  obtain ⟨K, hK⟩ := ev_unif g q lo (hi - lo).toNat (fun x a b => hp x a (by omega))
  have run : ∀ k, max K 42 ≤ k → ∃ r, impl_least.go (g k) k lo hi = some r ∧ lo ≤ r ∧ r ≤ hi ∧ (∀ x, lo ≤ x → x < r → q x = false) ∧ (r < hi → q r = true) := by
    intro k hk
    obtain ⟨c, rfl⟩ : ∃ c, k = c + 1 := ⟨k - 1, by omega⟩
    refine go_find (g (c + 1)) q hm c lo hi h0 (by omega) hle ?_ (fun x a b => hK _ (by omega) x a (by omega))
    have h41 : (2 : Int) ^ 41 ≤ 2 ^ c := by
      have : (2 ^ 41 : Nat) ≤ 2 ^ c := Nat.pow_le_pow_right (by decide) (by omega)
      have h2 : ((2 ^ 41 : Nat) : Int) ≤ ((2 ^ c : Nat) : Int) := by omega
      simpa using h2
    have e : (2 : Int) ^ 41 = 2199023255552 := by decide
    omega
  obtain ⟨r, _, h1, h2, h3, h5⟩ := run (max K 42) (Nat.le_refl _)
  refine ⟨r, ev_from (max K 42) (fun k hk => ?_), h1, h2, h3, h5⟩
  obtain ⟨s, hs, g1, g2, g3, g5⟩ := run k hk
  rw [hs, least_uniq g1 g2 g3 g5 h1 h2 h3 h5]

/-! ### the functions of the digits' chapter -/
def goodN (n : Int) : Bool := decide (0 ≤ n ∧ n ≤ 1000000000000)
theorem isWritten_eq (n : Int) : impl_isWritten.f n = some (goodN n) := by unfold impl_isWritten.f; rw [within_eq]; rfl
theorem diGood_eq (n : Int) : spec_diGood.f n = some (goodN n) := by unfold spec_diGood.f; rw [l1In_eq]; rfl
theorem goodN_iff {n : Int} : goodN n = true ↔ 0 ≤ n ∧ n ≤ 1000000000000 := by unfold goodN; simp
def cl (n : Int) (m : Nat) : List Int := (List.range m).map fun d : Nat => cntO n (d : Int)
theorem cl_len (n : Int) (m : Nat) : (cl n m).length = m := by unfold cl; simp
theorem cl_succ (n : Int) (m : Nat) : cl n (m + 1) = cl n m ++ [cntO n (m : Int)] := by unfold cl; rw [List.range_succ, List.map_append]; rfl
theorem cl_rd (n : Int) {m i : Nat} (h : i < m) : rd (cl n m) (i : Int) = cntO n (i : Int) := by
  unfold rd cl
  rw [Int.toNat_natCast, List.getD_eq_getElem?_getD, List.getElem?_map, List.getElem?_range h]; rfl
theorem cnt_bd {n d : Int} (hn : 0 ≤ n) (hN : n ≤ 1000000000000) (h0 : 0 ≤ d) : 0 ≤ cntO n d ∧ cntO n d ≤ 26000000000013 := by
  have := sumT_bd hn h0 13
  unfold cntO
  omega
theorem iDC_loop {n : Int} (hn : 0 ≤ n) (hN : n ≤ 1000000000000) : ∀ d i : Nat, i + d = 10 → Ev (fun k => impl_DigitCounts.l0 k n (cl n i) (i : Int)) (cl n 10, true) := by
  intro d
  induction d with
  | zero =>
    intro i hi
    obtain rfl : i = 10 := by omega
    refine ev_succ ?_
    simp only [impl_DigitCounts.l0]
    exact ev_neg (by omega) (ev_eq fun _ => rfl)
  | succ d ih =>
    intro i hi
    have h := ih (i + 1) (by omega)
    rw [cl_succ] at h
    refine ev_succ ?_
    simp only [impl_DigitCounts.l0]
    rw [wrap_nat (by omega)]
    exact ev_pos (by omega) (Ev.bind (implCount_ev hn hN (by omega)) (ev_pos (by rw [cl_len]; omega) h))
theorem sDC_loop {n : Int} (hn : 0 ≤ n) (hN : n ≤ 1000000000000) : ∀ d i : Nat, i + d = 10 → Ev (fun k => spec_DigitCounts.l0 k n (cl n i) (i : Int)) (cl n 10, true) := by
  intro d
  induction d with
  | zero =>
    intro i hi
    obtain rfl : i = 10 := by omega
    refine ev_succ ?_
    simp only [spec_DigitCounts.l0]
    exact ev_neg (by omega) (ev_eq fun _ => rfl)
  | succ d ih =>
    intro i hi
    have h := ih (i + 1) (by omega)
    rw [cl_succ] at h
    refine ev_succ ?_
    simp only [spec_DigitCounts.l0]
    rw [wrap_nat (by omega)]
    exact ev_pos (by omega) (Ev.bind (specCount_ev hn hN (by omega)) (ev_pos (by rw [cl_len]; omega) h))
def clG (n : Int) : List Int × Bool := if goodN n = true then (cl n 10, true) else ([], false)
theorem iDC_ev (n : Int) : Ev (fun k => impl_DigitCounts.f k n) (clG n) := by
  unfold impl_DigitCounts.f clG
  refine ev_bind (isWritten_eq n) ?_
  by_cases c : goodN n = true
  · have h := goodN_iff.mp c
    rw [if_pos c]
    exact ev_pos c (iDC_loop h.1 h.2 10 0 (by omega))
  · rw [if_neg c]; exact ev_neg c (ev_eq fun _ => rfl)
theorem sDC_ev (n : Int) : Ev (fun k => spec_DigitCounts.f k n) (clG n) := by
  unfold spec_DigitCounts.f clG
  refine ev_bind (diGood_eq n) ?_
  by_cases c : goodN n = true
  · have h := goodN_iff.mp c
    rw [if_pos c]
    exact ev_pos c (sDC_loop h.1 h.2 10 0 (by omega))
  · rw [if_neg c]; exact ev_neg c (ev_eq fun _ => rfl)
def sg (n : Int) : Nat → Int
  | 0 => 0
  | i + 1 => sg n i + (i : Int) * cntO n (i : Int)
theorem sg_term {n : Int} (hn : 0 ≤ n) (hN : n ≤ 1000000000000) (i : Nat) (h : i ≤ 9) : 0 ≤ (i : Int) * cntO n (i : Int) ∧ (i : Int) * cntO n (i : Int) ≤ 9 * 26000000000013 := by
  have hc := cnt_bd (d := (i : Int)) hn hN (by omega)
  have h1 := Int.mul_nonneg (show (0 : Int) ≤ (i : Int) by omega) hc.1
  have h2 : (i : Int) * cntO n (i : Int) ≤ 9 * cntO n (i : Int) := Int.mul_le_mul_of_nonneg_right (by omega) hc.1
  omega
theorem sg_bd {n : Int} (hn : 0 ≤ n) (hN : n ≤ 1000000000000) : ∀ i : Nat, i ≤ 10 → 0 ≤ sg n i ∧ sg n i ≤ i * 234000000000117 := by
  intro i
  induction i with
  | zero => intro _; simp [sg]
  | succ i ih =>
    intro h
    have := ih (by omega)
    have := sg_term hn hN i (by omega)
    rw [sg]; omega
theorem iSum_loop {n : Int} (hn : 0 ≤ n) (hN : n ≤ 1000000000000) (b : Bool) : ∀ d i : Nat, i + d = 10 → Ev (fun k => impl_SumOfDigitsUpTo.l0 k b (sg n i) (cl n 10) ((cl n 10).length : Int) (i : Int)) (sg n 10, b) := by
  intro d
  induction d with
  | zero =>
    intro i hi
    obtain rfl : i = 10 := by omega
    refine ev_succ ?_
    simp only [impl_SumOfDigitsUpTo.l0]
    exact ev_neg (by rw [cl_len]; omega) (ev_eq fun _ => rfl)
  | succ d ih =>
    intro i hi
    have h := ih (i + 1) (by omega)
    have ht := sg_term hn hN i (by omega)
    have hb := sg_bd hn hN i (by omega)
    rw [sg] at h
    refine ev_succ ?_
    simp only [impl_SumOfDigitsUpTo.l0]
    rw [cl_rd n (show i < 10 by omega), wrap_nat (by omega), wrap_of (x := (i : Int) * cntO n (i : Int)) (by omega) (by omega), wrap_of (x := sg n i + (i : Int) * cntO n (i : Int)) (by omega) (by omega)]
    exact ev_pos (by rw [cl_len]; omega) (ev_pos (by omega) (ev_pos (by rw [cl_len]; omega) h))
theorem sSum_loop {n : Int} (hn : 0 ≤ n) (hN : n ≤ 1000000000000) : ∀ d i : Nat, i + d = 10 → Ev (fun k => spec_SumOfDigitsUpTo.l0 k n (sg n i) (i : Int)) (sg n 10, true) := by
  intro d
  induction d with
  | zero =>
    intro i hi
    obtain rfl : i = 10 := by omega
    refine ev_succ ?_
    simp only [spec_SumOfDigitsUpTo.l0]
    exact ev_neg (by omega) (ev_eq fun _ => rfl)
  | succ d ih =>
    intro i hi
    have h := ih (i + 1) (by omega)
    have ht := sg_term hn hN i (by omega)
    have hb := sg_bd hn hN i (by omega)
    rw [sg] at h
    refine ev_succ ?_
    simp only [spec_SumOfDigitsUpTo.l0]
    refine ev_pos (by omega) (Ev.bind (specCount_ev hn hN (by omega)) ?_)
    rw [wrap_nat (by omega), wrap_of (x := (i : Int) * cntO n (i : Int)) (by omega) (by omega), wrap_of (x := sg n i + (i : Int) * cntO n (i : Int)) (by omega) (by omega)]
    exact h
def sgG (n : Int) : Int × Bool := if goodN n = true then (sg n 10, true) else (0, false)
theorem iSum_ev (n : Int) : Ev (fun k => impl_SumOfDigitsUpTo.f k n) (sgG n) := by
  unfold impl_SumOfDigitsUpTo.f
  refine Ev.bind (iDC_ev n) ?_
  unfold clG sgG
  by_cases c : goodN n = true
  · have h := goodN_iff.mp c
    rw [if_pos c, if_pos c]
    exact iSum_loop h.1 h.2 true 10 0 (by omega)
  · rw [if_neg c, if_neg c]
    refine ev_succ ?_
    simp only [impl_SumOfDigitsUpTo.l0]
    exact ev_neg (by simp) (ev_eq fun _ => rfl)
theorem sSum_ev (n : Int) : Ev (fun k => spec_SumOfDigitsUpTo.f k n) (sgG n) := by
  unfold spec_SumOfDigitsUpTo.f sgG
  refine ev_bind (diGood_eq n) ?_
  by_cases c : goodN n = true
  · have h := goodN_iff.mp c
    rw [if_pos c]
    have := sSum_loop h.1 h.2 9 1 (by omega)
    have e : sg n 1 = 0 := by simp [sg]
    rw [e] at this
    exact ev_pos c this
  · rw [if_neg c]; exact ev_neg c (ev_eq fun _ => rfl)
def wrG (n : Int) : Int × Bool := if goodN n = true then (wrtO n, true) else (0, false)
theorem iWr_ev (n : Int) : Ev (fun k => impl_DigitsWritten.f k n) (wrG n) := by
  unfold impl_DigitsWritten.f wrG
  refine ev_bind (isWritten_eq n) ?_
  by_cases c : goodN n = true
  · have h := goodN_iff.mp c
    rw [if_pos c]
    exact ev_pos c (Ev.bind (implW_ev h.1 (by omega)) (ev_eq fun _ => rfl))
  · rw [if_neg c]; exact ev_neg c (ev_eq fun _ => rfl)
theorem sWr_ev (n : Int) : Ev (fun k => spec_DigitsWritten.f k n) (wrG n) := by
  unfold spec_DigitsWritten.f wrG
  refine ev_bind (diGood_eq n) ?_
  by_cases c : goodN n = true
  · have h := goodN_iff.mp c
    rw [if_pos c]
    exact ev_pos c (Ev.bind (specW_ev h.1 (by omega)) (ev_eq fun _ => rfl))
  · rw [if_neg c]; exact ev_neg c (ev_eq fun _ => rfl)
def ccG (n d : Int) : Int × Bool := if goodN n = true ∧ (0 ≤ d ∧ d ≤ 9) then (cntO n d, true) else (0, false)
theorem iCC_ev (n d : Int) : Ev (fun k => impl_CountDigit.f k n d) (ccG n d) := by
  unfold impl_CountDigit.f ccG impl_isDigit.f
  refine ev_bind (isWritten_eq n) ?_
  rw [within_eq]
  by_cases c : goodN n = true
  · have h := goodN_iff.mp c
    by_cases c2 : 0 ≤ d ∧ d ≤ 9
    · rw [if_pos ⟨c, c2⟩]
      exact ev_pos c (ev_pos (decide_eq_true c2) (Ev.bind (implCount_ev h.1 h.2 c2.1) (ev_eq fun _ => rfl)))
    · rw [if_neg (fun e => c2 e.2)]
      exact ev_pos c (ev_neg (by simpa using c2) (ev_eq fun _ => rfl))
  · rw [if_neg (fun e => c e.1)]; exact ev_neg c (ev_eq fun _ => rfl)
theorem sCC_ev (n d : Int) : Ev (fun k => spec_CountDigit.f k n d) (ccG n d) := by
  unfold spec_CountDigit.f ccG spec_diDigit.f
  refine ev_bind (diGood_eq n) ?_
  rw [l1In_eq]
  by_cases c : goodN n = true
  · have h := goodN_iff.mp c
    by_cases c2 : 0 ≤ d ∧ d ≤ 9
    · rw [if_pos ⟨c, c2⟩]
      exact ev_pos c (ev_pos (decide_eq_true c2) (Ev.bind (specCount_ev h.1 h.2 c2.1) (ev_eq fun _ => rfl)))
    · rw [if_neg (fun e => c2 e.2)]
      exact ev_pos c (ev_neg (by simpa using c2) (ev_eq fun _ => rfl))
  · rw [if_neg (fun e => c e.1)]; exact ev_neg c (ev_eq fun _ => rfl)

/-! ### the reference's own decimals -/
theorem strOne (x : Int) (h0 : 0 ≤ x) (h : x < 256) : strOfNums [x] = (⟨[UInt8.ofNat x.toNat].toArray⟩ : ByteArray) := by
  unfold strOfNums
  simp
theorem l1Num_ev (n : Nat) (hn : n ≤ 9223372036854775807) : Ev (fun k => spec_l1Num.f k (n : Int)) ⟨(Lib.decDigits n).toArray⟩ := by
  induction n using Nat.strongRecOn with
  | _ n ih =>
    refine ev_succ ?_
    simp only [spec_l1Num.f]
    by_cases h : n < 10
    · refine ev_pos (by omega) (ev_eq fun _ => ?_)
      have e : wrap64 (48 + (n : Int)) % 256 = 48 + (n : Int) := by rw [wrap_of (by omega) (by omega)]; omega
      rw [e, strOne _ (by omega) (by omega), Lib.decDigits_one h, show (48 + (n : Int)).toNat = 48 + n by omega]
    · refine ev_neg (by omega) ?_
      have e1 : wrap64 (Int.tdiv (n : Int) 10) = ((n / 10 : Nat) : Int) := by
        rw [Int.tdiv_eq_ediv_of_nonneg (by omega), wrap_of (by omega) (by omega)]; omega
      rw [e1]
      have hd := ih (n / 10) (by omega) (by omega)
      refine Ev.bind hd (ev_eq fun _ => ?_)
      have e2 : Int.tmod (n : Int) 10 = ((n % 10 : Nat) : Int) := by rw [Int.tmod_eq_emod_of_nonneg (by omega)]; omega
      have e3 : wrap64 (48 + ((n % 10 : Nat) : Int)) % 256 = 48 + ((n % 10 : Nat) : Int) := by rw [wrap_of (by omega) (by omega)]; omega
      rw [e2, e3]
      simp only [Option.bind_some]
      rw [strOne _ (by omega) (by omega), show (48 + ((n % 10 : Nat) : Int)).toNat = 48 + n % 10 by omega]
      have hl := nDig_le (n / 10) 19 (by omega) (by omega)
      rw [mk_size, mk_size, Lib.decDigits_length, if_pos (by simp; omega), mk_append]
      congr 3
      rw [Lib.decDigits.eq_1 n, dif_neg h]

/-! ### searches -/
def lastP (a x : Int) : Prop := 0 ≤ x ∧ x ≤ 1000000000000 ∧ wrtO x ≤ a ∧ ∀ y, x < y → y ≤ 1000000000000 → a < wrtO y
theorem last_uniq {a x y : Int} (h : lastP a x) (g : lastP a y) : x = y := by
  obtain ⟨h1, h2, h3, h4⟩ := h
  obtain ⟨g1, g2, g3, g4⟩ := g
  rcases Int.lt_trichotomy x y with e | e | e
  · have := h4 y e g2; omega
  · exact e
  · have := g4 x e h2; omega
theorem iLast_ev (a : Int) (ha : 0 ≤ a) (hN : a ≤ 1000000000000) : ∃ x, lastP a x ∧ Ev (fun k => impl_LastWritten.f k a) (x, true) := by
  obtain ⟨r, hr, h1, h2, h3, h4⟩ := least_ev (fun k => impl_LastWritten.p k a) (fun x => decide (wrtO x > a)) (fun x y h hx => by
      have := wrt_mono h
      simp only [decide_eq_true_eq] at hx ⊢; omega) 0 1000000000001 (by decide) (by decide) (by decide) (fun x g1 g2 => by
      unfold impl_LastWritten.p
      exact Ev.bind (implW_ev g1 (by omega)) (ev_eq fun _ => rfl))
  have hr1 : 1 ≤ r := by
    by_cases c : r = 0
    · subst c
      have h5 := h4 (by decide)
      rw [decide_eq_true_eq, wrt_zero] at h5
      omega
    · omega
  refine ⟨r - 1, ⟨by omega, by omega, ?_, fun y hy hy2 => ?_⟩, ?_⟩
  · have h5 := h3 (r - 1) (by omega) (by omega)
    rw [decide_eq_false_iff_not] at h5
    omega
  · have h5 := h4 (by omega)
    rw [decide_eq_true_eq] at h5
    have := wrt_mono (show r ≤ y by omega)
    omega
  · unfold impl_LastWritten.f
    refine ev_bind (isWritten_eq a) (ev_pos (goodN_iff.mpr ⟨ha, hN⟩) ?_)
    rw [wrap_of (x := 1000000000000 + 1) (by decide) (by decide)]
    refine Ev.bind hr (ev_eq fun _ => ?_)
    rw [wrap_of (by omega) (by omega)]
theorem sLast_loop (a : Int) : ∀ (m : Nat) (lo hi : Int), hi - lo ≤ m → 0 ≤ lo → lo ≤ hi → hi ≤ 1000000000000 → wrtO lo ≤ a → (∀ y, hi < y → y ≤ 1000000000000 → a < wrtO y) → ∃ x, lastP a x ∧ Ev (fun k => spec_diLast.l0 k a lo hi) x := by
  intro m
  induction m with
  | zero =>
    intro lo hi hm h0 hle hN h1 h2
    obtain rfl : lo = hi := by omega
    refine ⟨lo, ⟨h0, hN, h1, h2⟩, ev_succ ?_⟩
    simp only [spec_diLast.l0]
    exact ev_neg (by omega) (ev_eq fun _ => rfl)
  | succ m ih =>
    intro lo hi hm h0 hle hN h1 h2
    by_cases c : lo < hi
    · have em : wrap64 (Int.tdiv (wrap64 (wrap64 (lo + hi) + 1)) 2) = (lo + hi + 1) / 2 := by
        rw [wrap_of (x := lo + hi) (by omega) (by omega), wrap_of (x := lo + hi + 1) (by omega) (by omega), Int.tdiv_eq_ediv_of_nonneg (by omega), wrap_of (by omega) (by omega)]
      obtain ⟨q, hq⟩ : ∃ q, q = (lo + hi + 1) / 2 := ⟨_, rfl⟩
      by_cases cw : wrtO q ≤ a
      · obtain ⟨x, hx, hev⟩ := ih q hi (by omega) (by omega) (by omega) hN cw h2
        refine ⟨x, hx, ev_succ ?_⟩
        simp only [spec_diLast.l0]
        rw [em, ← hq]
        exact ev_pos c (Ev.bind (specW_ev (by omega) (by omega)) (ev_pos cw hev))
      · obtain ⟨x, hx, hev⟩ := ih lo (q - 1) (by omega) h0 (by omega) (by omega) h1 (fun y hy hy2 => by have := wrt_mono (show q ≤ y by omega); omega)
        refine ⟨x, hx, ev_succ ?_⟩
        simp only [spec_diLast.l0]
        rw [em, ← hq, wrap_of (x := q - 1) (by omega) (by omega)]
        exact ev_pos c (Ev.bind (specW_ev (by omega) (by omega)) (ev_neg cw hev))
    · obtain rfl : lo = hi := by omega
      refine ⟨lo, ⟨h0, hN, h1, h2⟩, ev_succ ?_⟩
      simp only [spec_diLast.l0]
      exact ev_neg (by omega) (ev_eq fun _ => rfl)
theorem sLast_ev (a : Int) (ha : 0 ≤ a) : ∃ x, lastP a x ∧ Ev (fun k => spec_diLast.f k a) x := by
  unfold spec_diLast.f
  exact sLast_loop a 1000000000000 0 1000000000000 (by decide) (by decide) (by decide) (by decide) (by rw [wrt_zero]; exact ha) (fun y _ _ => by omega)
theorem last_both (a : Int) (ha : 0 ≤ a) (hN : a ≤ 1000000000000) : ∃ x, lastP a x ∧ Ev (fun k => impl_LastWritten.f k a) (x, true) ∧ Ev (fun k => spec_diLast.f k a) x ∧ Ev (fun k => spec_LastWritten.f k a) (x, true) := by
  obtain ⟨x, hx, h1⟩ := iLast_ev a ha hN
  obtain ⟨y, hy, h2⟩ := sLast_ev a ha
  obtain rfl := last_uniq hx hy
  refine ⟨x, hx, h1, h2, ?_⟩
  unfold spec_LastWritten.f
  exact ev_bind (diGood_eq a) (ev_pos (goodN_iff.mpr ⟨ha, hN⟩) (Ev.bind h2 (ev_eq fun _ => rfl)))
/-- the place: the number r and its digit's place -/
def placeP (a r : Int) : Prop := 1 ≤ r ∧ r ≤ 1000000000000 ∧ wrtO (r - 1) < a ∧ a ≤ wrtO r
theorem place_uniq {a x y : Int} (h : placeP a x) (g : placeP a y) : x = y := by
  obtain ⟨h1, h2, h3, h4⟩ := h
  obtain ⟨g1, g2, g3, g4⟩ := g
  rcases Int.lt_trichotomy x y with e | e | e
  · have := wrt_mono (show x ≤ y - 1 by omega); omega
  · exact e
  · have := wrt_mono (show y ≤ x - 1 by omega); omega
theorem iPlace_ev (a : Int) (ha : 1 ≤ a) (hN : a ≤ 1000000000000) : ∃ r, placeP a r ∧ Ev (fun k => impl_NumberAtPlace.f k a) (r, a - wrtO (r - 1), true) := by
  obtain ⟨r, hr, h1, h2, h3, h4⟩ := least_ev (fun k => impl_NumberAtPlace.p k a) (fun x => decide (wrtO x ≥ a)) (fun x y h hx => by
      have := wrt_mono h
      simp only [decide_eq_true_eq] at hx ⊢; omega) 1 1000000000001 (by decide) (by decide) (by decide) (fun x g1 g2 => by
      unfold impl_NumberAtPlace.p
      exact Ev.bind (implW_ev (by omega) (by omega)) (ev_eq fun _ => rfl))
  have hrN : r ≤ 1000000000000 := by
    by_cases c : r = 1000000000001
    · have h5 := h3 1000000000000 (by decide) (by omega)
      rw [decide_eq_false_iff_not, wrt_top] at h5
      omega
    · omega
  have hlt : wrtO (r - 1) < a := by
    by_cases c : r = 1
    · subst c; rw [show (1 : Int) - 1 = 0 by decide, wrt_zero]; omega
    · have h5 := h3 (r - 1) (by omega) (by omega)
      rw [decide_eq_false_iff_not] at h5
      omega
  have hge : a ≤ wrtO r := by
    have h5 := h4 (by omega)
    rw [decide_eq_true_eq] at h5
    exact h5
  have h0 := wrt_mono (show 0 ≤ r - 1 by omega)
  rw [wrt_zero] at h0
  refine ⟨r, ⟨h1, hrN, hlt, hge⟩, ?_⟩
  unfold impl_NumberAtPlace.f
  rw [within_eq]
  refine ev_pos (decide_eq_true ⟨ha, hN⟩) ?_
  rw [wrap_of (x := 1000000000000 + 1) (by decide) (by decide)]
  refine Ev.bind hr ?_
  rw [wrap_of (x := r - 1) (by omega) (by omega)]
  refine Ev.bind (implW_ev (by omega) (by omega)) (ev_eq fun _ => ?_)
  rw [wrap_of (by omega) (by omega)]
theorem pow13 : (10 : Int) ^ 13 = 10000000000000 := by decide
theorem sPlace_ev (a : Int) (ha : 1 ≤ a) (hN : a ≤ 1000000000000) : ∃ r, placeP a r ∧ Ev (fun k => spec_diPlace.f k a) (r, a - wrtO (r - 1)) := by
  obtain ⟨x, ⟨h1, h2, h3, h4⟩, hx⟩ := sLast_ev a (by omega)
  have h0 := wrt_mono h1
  rw [wrt_zero] at h0
  by_cases c : a - wrtO x = 0
  · have hx1 : 1 ≤ x := by
      by_cases e : x = 0
      · subst e; rw [wrt_zero] at c; omega
      · omega
    have hl := wrt_lt hx1 (by rw [pow13]; omega)
    refine ⟨x, ⟨hx1, h2, by omega, by omega⟩, ?_⟩
    unfold spec_diPlace.f
    refine Ev.bind hx (Ev.bind (specW_ev h1 (by omega)) (ev_pos (by rw [wrap_of (by omega) (by omega)]; exact c) ?_))
    obtain ⟨n, rfl⟩ : ∃ n : Nat, x = (n : Int) := ⟨x.toNat, by omega⟩
    refine Ev.bind (l1Num_ev n (by omega)) (ev_eq fun _ => ?_)
    have hs := wrt_step (n : Int) hx1 (by rw [pow13]; omega)
    rw [nd_eq n (by omega) (by omega)] at hs
    rw [mk_size, Lib.decDigits_length]
    congr 2
    omega
  · have htop : x < 1000000000000 := by
      by_cases e : x = 1000000000000
      · subst e; rw [wrt_top] at h3; omega
      · omega
    have hn := h4 (x + 1) (by omega) (by omega)
    have e1 : x + 1 - 1 = x := by omega
    refine ⟨x + 1, ⟨by omega, by omega, by rw [e1]; omega, by omega⟩, ?_⟩
    unfold spec_diPlace.f
    rw [e1]
    refine Ev.bind hx (Ev.bind (specW_ev h1 (by omega)) (ev_neg (by rw [wrap_of (by omega) (by omega)]; exact c) (ev_eq fun _ => ?_)))
    rw [wrap_of (x := x + 1) (by omega) (by omega), wrap_of (x := a - wrtO x) (by omega) (by omega)]

/-! ### texts of digits: sums, numbers -/
def dv (b : UInt8) : Int := ((b.toNat : Int) - 48) % 256
theorem dv_range (b : UInt8) : 0 ≤ dv b ∧ dv b ≤ 255 := by unfold dv; omega
def lsum : List UInt8 → Int
  | [] => 0
  | b :: l => dv b + lsum l
theorem lsum_range (l : List UInt8) : 0 ≤ lsum l ∧ lsum l ≤ 255 * l.length := by
  induction l with
  | nil => simp [lsum]
  | cons b l ih => have := dv_range b; simp only [lsum, List.length_cons]; omega
theorem lsum_append (a b : List UInt8) : lsum (a ++ b) = lsum a + lsum b := by
  induction a with
  | nil => simp [lsum]
  | cons x a ih => simp only [List.cons_append, lsum, ih]; omega
def dch (d : Nat) : UInt8 := UInt8.ofNat (48 + d)
theorem dch_nat {d : Nat} (h : d < 10) : (dch d).toNat = 48 + d := by unfold dch; rw [UInt8.toNat_ofNat']; omega
theorem dv_dch {d : Nat} (h : d < 10) : dv (dch d) = d := by unfold dv; rw [dch_nat h]; omega
/-- k digits of n, zeros in front -/
def pad : Nat → Nat → List UInt8
  | 0, _ => []
  | k + 1, n => pad k (n / 10) ++ [dch (n % 10)]
theorem pad_length (k : Nat) : ∀ n, (pad k n).length = k := by
  induction k with
  | zero => intro n; rfl
  | succ k ih => intro n; simp [pad, ih]
theorem pad_zero (k : Nat) : pad k 0 = List.replicate k 48 := by
  induction k with
  | zero => rfl
  | succ k ih => rw [List.replicate_succ', ← ih]; rfl
theorem pad_take (k : Nat) : ∀ (j n : Nat), (pad (k + j) n).take k = pad k (n / 10 ^ j) := by
  intro j
  induction j with
  | zero => intro n; rw [Nat.add_zero, List.take_of_length_le (by rw [pad_length]; exact Nat.le_refl _)]; simp
  | succ j ih =>
    intro n
    rw [show k + (j + 1) = (k + j) + 1 by omega]
    simp only [pad]
    rw [List.take_append_of_le_length (by rw [pad_length]; omega), ih, Nat.div_div_eq_div_mul, Nat.pow_succ, Nat.mul_comm]
theorem pad_drop (j : Nat) : ∀ (k n : Nat), (pad (k + j) n).drop k = pad j (n % 10 ^ j) := by
  induction j with
  | zero => intro k n; rw [Nat.add_zero, List.drop_eq_nil_of_le (by rw [pad_length]; exact Nat.le_refl _)]; rfl
  | succ j ih =>
    intro k n
    rw [show k + (j + 1) = (k + j) + 1 by omega]
    simp only [pad]
    rw [List.drop_append_of_le_length (by rw [pad_length]; omega), ih]
    congr 1
    · congr 1
      rw [Nat.pow_succ, Nat.mul_comm, Nat.mod_mul_right_div_self]
    · congr 2
      rw [Nat.pow_succ, Nat.mul_comm]; exact (Nat.mod_mul_right_mod n 10 (10 ^ j)).symm
theorem pad_get (k n i : Nat) (h : i < (pad k n).length) : (pad k n)[i] = dch (n / 10 ^ (k - 1 - i) % 10) := by
  induction k generalizing n i with
  | zero => simp [pad] at h
  | succ k ih =>
    rw [pad_length] at h
    simp only [pad]
    by_cases c : i < k
    · rw [List.getElem_append_left (by rw [pad_length]; exact c), ih _ _ (by rw [pad_length]; exact c), Nat.div_div_eq_div_mul, show k + 1 - 1 - i = (k - 1 - i) + 1 by omega, Nat.pow_succ, Nat.mul_comm]
    · have : i = k := by omega
      subst this
      rw [List.getElem_append_right (by rw [pad_length]; exact Nat.le_refl _)]
      simp [pad_length]
theorem lsum_pad (k : Nat) : ∀ n, n < 10 ^ k → lsum (pad k n) = ds n := by
  induction k with
  | zero => intro n h; have : n = 0 := by simpa using h
            subst this; rw [ds_small (by omega)]; rfl
  | succ k ih =>
    intro n h
    simp only [pad]
    rw [lsum_append, ih _ (by rw [Nat.pow_succ] at h; omega), ds_step n]
    simp only [lsum, dv_dch (Nat.mod_lt n (by omega : 0 < 10))]; omega
def lnum (a : Int) : List UInt8 → Int
  | [] => a
  | b :: l => lnum (10 * a + dv b) l
theorem lnum_append (l m : List UInt8) : ∀ a, lnum a (l ++ m) = lnum (lnum a l) m := by
  induction l with
  | nil => intro a; rfl
  | cons b l ih => intro a; simp only [List.cons_append, lnum, ih]
theorem lnum_pad (k : Nat) : ∀ n, n < 10 ^ k → lnum 0 (pad k n) = n := by
  induction k with
  | zero => intro n h; have : n = 0 := by simpa using h
            subst this; rfl
  | succ k ih =>
    intro n h
    simp only [pad]
    rw [lnum_append, ih _ (by rw [Nat.pow_succ] at h; omega)]
    simp only [lnum, dv_dch (Nat.mod_lt n (by omega : 0 < 10))]; omega
theorem dec_pad (n : Nat) : Lib.decDigits n = pad (Lib.nDigits n) n := by
  induction n using Nat.strongRecOn with
  | _ n ih =>
    by_cases h : n < 10
    · rw [Lib.decDigits, dif_pos h, Lib.nDigits_small h]; simp [pad, dch, Nat.mod_eq_of_lt h]
    · rw [Lib.decDigits, dif_neg h, Lib.nDigits_big h, ih _ (by omega)]; rfl
theorem pad_front (j k n : Nat) (h : n < 10 ^ k) : pad (j + k) n = List.replicate j 48 ++ pad k n := by
  induction k generalizing n with
  | zero => have : n = 0 := by simpa using h
            subst this; simp [pad, pad_zero]
  | succ k ih =>
    rw [show j + (k + 1) = (j + k) + 1 by omega]
    simp only [pad]
    rw [ih _ (by rw [Nat.pow_succ] at h; omega), List.append_assoc]

/-! ### the program's digit sum -/
theorem isumOf_loop (t : ByteArray) (hs : t.size ≤ 1099511627776) : ∀ (d i : Nat) (x : Int), i + d = t.size → 0 ≤ x → x ≤ 255 * i →
    Ev (fun k => impl_sumOf.l0 k t x (t.size : Int) (i : Int)) (x + lsum (t.data.toList.drop i)) := by
  intro d
  induction d with
  | zero =>
    intro i x hi _ _
    refine ev_succ ?_
    simp only [impl_sumOf.l0]
    rw [List.drop_eq_nil_of_le (by rw [size_len]; omega)]
    exact ev_neg (by omega) (ev_eq fun _ => by simp [lsum])
  | succ d ih =>
    intro i x hi h0 h1
    refine ev_succ ?_
    simp only [impl_sumOf.l0]
    have hlt : i < t.data.toList.length := by rw [size_len]; omega
    rw [bt_get t i hlt, List.drop_eq_getElem_cons hlt, wrap_nat (by omega)]
    have hd := dv_range (t.data.toList[i])
    have e1 : ((t.data.toList[i].toNat : Int) - 48) % 256 = dv (t.data.toList[i]) := rfl
    rw [e1, wrap_of (by omega) (by omega)]
    refine ev_pos (by omega) (ev_pos (by omega) (ev_pos (by omega) ?_))
    simp only [lsum]
    rw [← Int.add_assoc]
    exact ih (i + 1) _ (by omega) (by omega) (by omega)
theorem isumOf_ev (t : ByteArray) (hs : t.size ≤ 1099511627776) : Ev (fun k => impl_sumOf.f k t) (lsum t.data.toList) := by
  have h := isumOf_loop t hs t.size 0 0 (by omega) (Int.le_refl 0) (by omega)
  simp only [List.drop_zero, Int.zero_add] at h
  exact h
theorem itoa_nat (n : Nat) (h : n ≤ 9223372036854775807) : strconv_Itoa.f (n : Int) = some ⟨(Lib.decDigits n).toArray⟩ := by
  unfold strconv_Itoa.f
  rw [if_pos (by omega), if_pos (by omega), Lib.itoa_nonneg]
theorem nDigits_le (n : Nat) : ∀ k, 0 < k → n < 10 ^ k → Lib.nDigits n ≤ k := by
  induction n using Nat.strongRecOn with
  | _ n ih =>
    intro k hk h
    by_cases c : n < 10
    · rw [Lib.nDigits_small c]; exact hk
    · rw [Lib.nDigits_big c]
      obtain ⟨k, rfl⟩ : ∃ j, k = j + 1 := ⟨k - 1, by omega⟩
      have hk1 : 0 < k := by
        rcases Nat.eq_zero_or_pos k with e | e
        · subst e; simp at h; omega
        · exact e
      have := ih (n / 10) (by omega) k hk1 (by rw [Nat.pow_succ] at h; omega)
      omega
theorem dec_sum (n : Nat) : lsum (Lib.decDigits n) = ds n := by rw [dec_pad]; exact lsum_pad _ n (Lib.lt_pow_nDigits n)
theorem idigitSum_ev (n : Nat) (h : n ≤ 9223372036854775807) : Ev (fun k => impl_digitSum.f k (n : Int)) (ds n) := by
  unfold impl_digitSum.f
  refine ev_bind (itoa_nat n h) ?_
  have hs : (⟨(Lib.decDigits n).toArray⟩ : ByteArray).size ≤ 1099511627776 := by
    rw [mk_size, Lib.decDigits_length]
    have := nDigits_le n 19 (by omega) (by omega)
    omega
  have he := isumOf_ev _ hs
  rw [list_of, dec_sum] at he
  exact Ev.bind he (ev_eq fun _ => rfl)

/-! ### digits at places, digit sums, least numbers for a count -/
theorem dec_digit (n i : Nat) (h : i < Lib.nDigits n) : (bt (⟨(Lib.decDigits n).toArray⟩ : ByteArray) (i : Int) - 48) % 256 = ((n / 10 ^ (Lib.nDigits n - 1 - i) % 10 : Nat) : Int) := by
  have hl : i < (⟨(Lib.decDigits n).toArray⟩ : ByteArray).data.toList.length := by rw [size_len, mk_size, Lib.decDigits_length]; exact h
  rw [bt_get _ i hl]
  have e : (⟨(Lib.decDigits n).toArray⟩ : ByteArray).data.toList = pad (Lib.nDigits n) n := by rw [list_of, dec_pad]
  have hg : (⟨(Lib.decDigits n).toArray⟩ : ByteArray).data.toList[i] = dch (n / 10 ^ (Lib.nDigits n - 1 - i) % 10) := by
    exact (List.getElem_of_eq e hl).trans (pad_get _ _ _ (by rw [pad_length]; exact h))
  rw [hg]
  exact dv_dch (Nat.mod_lt _ (by decide))
def digP (a r : Int) : Int := r / 10 ^ (wrtO r - a).toNat % 10
theorem digP_eq {a r : Int} (h : placeP a r) : ∃ n : Nat, r = (n : Int) ∧ 1 ≤ n ∧ ∃ i : Nat, a - wrtO (r - 1) - 1 = (i : Int) ∧ i < Lib.nDigits n ∧ digP a r = ((n / 10 ^ (Lib.nDigits n - 1 - i) % 10 : Nat) : Int) := by
  obtain ⟨h1, h2, h3, h4⟩ := h
  obtain ⟨n, rfl⟩ : ∃ n : Nat, r = (n : Int) := ⟨r.toNat, by omega⟩
  have hs := wrt_step (n : Int) h1 (by rw [pow13]; omega)
  rw [nd_eq n (by omega) (by omega)] at hs
  refine ⟨n, rfl, by omega, (a - wrtO ((n : Int) - 1) - 1).toNat, by omega, by omega, ?_⟩
  unfold digP
  rw [show (wrtO (n : Int) - a).toNat = Lib.nDigits n - 1 - (a - wrtO ((n : Int) - 1) - 1).toNat by omega, ← pow_cast]
  omega
theorem place_both (a : Int) (ha : 1 ≤ a) (hN : a ≤ 1000000000000) : ∃ r, placeP a r ∧ Ev (fun k => impl_NumberAtPlace.f k a) (r, a - wrtO (r - 1), true) ∧ Ev (fun k => spec_NumberAtPlace.f k a) (r, a - wrtO (r - 1), true) ∧ Ev (fun k => impl_DigitAtPlace.f k a) (digP a r, true) ∧ Ev (fun k => spec_DigitAtPlace.f k a) (digP a r, true) := by
  obtain ⟨r, hr, h1⟩ := iPlace_ev a ha hN
  obtain ⟨s, hs, h2⟩ := sPlace_ev a ha hN
  obtain rfl := place_uniq hr hs
  obtain ⟨n, rfl, hn1, i, hi, hin, hd⟩ := digP_eq hr
  have hw : wrap64 (a - wrtO ((n : Int) - 1) - 1) = (i : Int) := by rw [hi]; obtain ⟨_, hx, _, _⟩ := hr; have := nDig_le n 13 (by decide) (by omega); exact wrap_of (by omega) (by omega)
  have hdd := dec_digit n i hin
  have hsz : (⟨(Lib.decDigits n).toArray⟩ : ByteArray).size = Lib.nDigits n := by rw [mk_size, Lib.decDigits_length]
  have hnN : n ≤ 1000000000000 := by obtain ⟨_, hx, _, _⟩ := hr; omega
  refine ⟨n, hr, h1, ?_, ?_, ?_⟩
  · unfold spec_NumberAtPlace.f
    rw [l1In_eq]
    exact ev_pos (decide_eq_true ⟨ha, hN⟩) (Ev.bind h2 (ev_eq fun _ => rfl))
  · unfold impl_DigitAtPlace.f
    refine Ev.bind h1 (ev_pos rfl (ev_bind (itoa_nat n (by omega)) ?_))
    rw [hw]
    refine ev_pos (by omega) (ev_pos (by rw [hsz]; omega) (ev_eq fun _ => ?_))
    rw [hdd, hd]
  · unfold spec_DigitAtPlace.f
    rw [l1In_eq]
    refine ev_pos (decide_eq_true ⟨ha, hN⟩) (Ev.bind h2 (Ev.bind (l1Num_ev n (by omega)) ?_))
    rw [hw]
    refine ev_pos (by omega) (ev_pos (by rw [hsz]; omega) (ev_eq fun _ => ?_))
    rw [hdd, hd]
theorem place_none (a : Int) (h : ¬ (1 ≤ a ∧ a ≤ 1000000000000)) : Ev (fun k => impl_NumberAtPlace.f k a) (0, 0, false) ∧ Ev (fun k => spec_NumberAtPlace.f k a) (0, 0, false) ∧ Ev (fun k => impl_DigitAtPlace.f k a) (0, false) ∧ Ev (fun k => spec_DigitAtPlace.f k a) (0, false) := by
  have h1 : Ev (fun k => impl_NumberAtPlace.f k a) (0, 0, false) := by
    unfold impl_NumberAtPlace.f
    rw [within_eq]
    exact ev_neg (by simpa using h) (ev_eq fun _ => rfl)
  refine ⟨h1, ?_, ?_, ?_⟩
  · unfold spec_NumberAtPlace.f
    rw [l1In_eq]
    exact ev_neg (by simpa using h) (ev_eq fun _ => rfl)
  · unfold impl_DigitAtPlace.f
    exact Ev.bind h1 (ev_neg (by decide) (ev_eq fun _ => rfl))
  · unfold spec_DigitAtPlace.f
    rw [l1In_eq]
    exact ev_neg (by simpa using h) (ev_eq fun _ => rfl)
theorem iDS_ev (n : Nat) (h : n ≤ 1000000000000) : Ev (fun k => impl_DigitSum.f k (n : Int)) (ds n, true) := by
  unfold impl_DigitSum.f
  exact ev_bind (isWritten_eq _) (ev_pos (goodN_iff.mpr ⟨by omega, by omega⟩) (Ev.bind (idigitSum_ev n (by omega)) (ev_eq fun _ => rfl)))
/-- the least number for which a digit is written so often -/
def lfcP (d m r : Int) : Prop := 1 ≤ r ∧ r ≤ 1000000000000 ∧ m ≤ cntO r d ∧ cntO (r - 1) d < m
theorem lfc_uniq {d m x y : Int} (h0 : 0 ≤ d) (h9 : d ≤ 9) (h : lfcP d m x) (g : lfcP d m y) : x = y := by
  obtain ⟨h1, h2, h3, h4⟩ := h
  obtain ⟨g1, g2, g3, g4⟩ := g
  rcases Int.lt_trichotomy x y with e | e | e
  · have := cnt_le h0 h9 (show 0 ≤ x by omega) (show x ≤ y - 1 by omega); omega
  · exact e
  · have := cnt_le h0 h9 (show 0 ≤ y by omega) (show y ≤ x - 1 by omega); omega
theorem iLfc_ev (d m : Int) (h0 : 0 ≤ d) (h9 : d ≤ 9) (hm : 1 ≤ m) (hM : m ≤ 1000000000000) : (cntO 1000000000000 d < m ∧ Ev (fun k => impl_LeastForCount.f k d m) (0, false)) ∨ (m ≤ cntO 1000000000000 d ∧ ∃ r, lfcP d m r ∧ Ev (fun k => impl_LeastForCount.f k d m) (r, true)) := by
  obtain ⟨r, hr, h1, h2, h3, h4⟩ := least_ev (fun k => impl_LeastForCount.p k d m) (fun x => decide (0 ≤ x ∧ cntO x d ≥ m)) (fun x y h hx => by
      simp only [decide_eq_true_eq] at hx ⊢
      have := cnt_le h0 h9 hx.1 h
      omega) 1 1000000000001 (by decide) (by decide) (by decide) (fun x g1 g2 => by
      unfold impl_LeastForCount.p
      exact Ev.bind (implCount_ev (by omega) (by omega) h0) (ev_eq fun _ => by congr 1; rw [decide_eq_decide]; omega))
  have hf : Ev (fun k => impl_LeastForCount.f k d m) (if r > 1000000000000 then (0, false) else (r, true)) := by
    unfold impl_LeastForCount.f impl_isDigit.f
    rw [within_eq, within_eq]
    refine ev_pos (decide_eq_true ⟨h0, h9⟩) (ev_pos (decide_eq_true ⟨hm, hM⟩) ?_)
    rw [wrap_of (x := 1000000000000 + 1) (by decide) (by decide)]
    refine Ev.bind hr ?_
    by_cases c : r > 1000000000000
    · simp only [if_pos c]; exact ev_eq fun _ => rfl
    · simp only [if_neg c]; exact ev_eq fun _ => rfl
  by_cases c : r > 1000000000000
  · rw [if_pos c] at hf
    have h5 := h3 1000000000000 (by decide) (by omega)
    simp only [decide_eq_false_iff_not] at h5
    exact .inl ⟨by omega, hf⟩
  · rw [if_neg c] at hf
    have h5 := h4 (by omega)
    rw [decide_eq_true_eq] at h5
    have h6 := cnt_le h0 h9 (show 0 ≤ r by omega) (show r ≤ 1000000000000 by omega)
    refine .inr ⟨by omega, r, ⟨h1, by omega, h5.2, ?_⟩, hf⟩
    by_cases e : r = 1
    · subst e; rw [show (1 : Int) - 1 = 0 by decide, cnt_zero d h0]; omega
    · have h7 := h3 (r - 1) (by omega) (by omega)
      simp only [decide_eq_false_iff_not] at h7
      omega
theorem sLfc_loop (d m : Int) (h0 : 0 ≤ d) (h9 : d ≤ 9) : ∀ (f : Nat) (lo hi : Int), hi - lo ≤ f → 1 ≤ lo → lo ≤ hi → hi ≤ 1000000000000 → cntO (lo - 1) d < m → m ≤ cntO hi d → ∃ r, lfcP d m r ∧ Ev (fun k => spec_LeastForCount.l0 k d m lo hi) (r, true) := by
  intro f
  induction f with
  | zero =>
    intro lo hi hf h1 hle hN g1 g2
    obtain rfl : lo = hi := by omega
    refine ⟨lo, ⟨h1, hN, g2, g1⟩, ev_succ ?_⟩
    simp only [spec_LeastForCount.l0]
    exact ev_neg (by omega) (ev_eq fun _ => rfl)
  | succ f ih =>
    intro lo hi hf h1 hle hN g1 g2
    by_cases c : lo < hi
    · have em : wrap64 (Int.tdiv (wrap64 (lo + hi)) 2) = (lo + hi) / 2 := by
        rw [wrap_of (x := lo + hi) (by omega) (by omega), Int.tdiv_eq_ediv_of_nonneg (by omega), wrap_of (by omega) (by omega)]
      obtain ⟨q, hq⟩ : ∃ q, q = (lo + hi) / 2 := ⟨_, rfl⟩
      by_cases cw : cntO q d ≥ m
      · obtain ⟨x, hx, hev⟩ := ih lo q (by omega) h1 (by omega) (by omega) g1 cw
        refine ⟨x, hx, ev_succ ?_⟩
        simp only [spec_LeastForCount.l0]
        rw [em, ← hq]
        exact ev_pos c (Ev.bind (specCount_ev (by omega) (by omega) h0) (ev_pos cw hev))
      · obtain ⟨x, hx, hev⟩ := ih (q + 1) hi (by omega) (by omega) (by omega) hN (by rw [show q + 1 - 1 = q by omega]; omega) g2
        refine ⟨x, hx, ev_succ ?_⟩
        simp only [spec_LeastForCount.l0]
        rw [em, ← hq, wrap_of (x := q + 1) (by omega) (by omega)]
        exact ev_pos c (Ev.bind (specCount_ev (by omega) (by omega) h0) (ev_neg cw hev))
    · obtain rfl : lo = hi := by omega
      refine ⟨lo, ⟨h1, hN, g2, g1⟩, ev_succ ?_⟩
      simp only [spec_LeastForCount.l0]
      exact ev_neg (by omega) (ev_eq fun _ => rfl)
theorem lfc_both (d m : Int) : (Ev (fun k => impl_LeastForCount.f k d m) (0, false) ∧ Ev (fun k => spec_LeastForCount.f k d m) (0, false)) ∨ (0 ≤ d ∧ d ≤ 9 ∧ ∃ r, lfcP d m r ∧ Ev (fun k => impl_LeastForCount.f k d m) (r, true) ∧ Ev (fun k => spec_LeastForCount.f k d m) (r, true)) := by
  have j0t : Ev (fun k => spec_LeastForCount.j0 k d m true) (0, false) := ev_succ (by simp only [spec_LeastForCount.j0]; exact ev_pos trivial (ev_eq fun _ => rfl))
  by_cases hd : 0 ≤ d ∧ d ≤ 9
  rotate_left
  · refine .inl ⟨?_, ?_⟩
    · unfold impl_LeastForCount.f impl_isDigit.f
      rw [within_eq]
      exact ev_neg (by simpa using hd) (ev_eq fun _ => rfl)
    · unfold spec_LeastForCount.f spec_diDigit.f
      rw [l1In_eq]
      exact ev_neg (by simpa using hd) j0t
  by_cases hm : 1 ≤ m ∧ m ≤ 1000000000000
  rotate_left
  · refine .inl ⟨?_, ?_⟩
    · unfold impl_LeastForCount.f impl_isDigit.f
      rw [within_eq, within_eq]
      exact ev_pos (decide_eq_true hd) (ev_neg (by simpa using hm) (ev_eq fun _ => rfl))
    · unfold spec_LeastForCount.f spec_diDigit.f
      rw [l1In_eq, l1In_eq]
      exact ev_pos (decide_eq_true hd) (ev_neg (by simpa using hm) j0t)
  have sf : ∀ x, Ev (fun k => spec_LeastForCount.j0 k d m (decide (cntO 1000000000000 d < m))) x → Ev (fun k => spec_LeastForCount.f k d m) x := fun x hx => by
    unfold spec_LeastForCount.f spec_diDigit.f
    rw [l1In_eq, l1In_eq]
    exact ev_pos (decide_eq_true hd) (ev_pos (decide_eq_true hm) (Ev.bind (specCount_ev (by decide) (by decide) hd.1) hx))
  rcases iLfc_ev d m hd.1 hd.2 hm.1 hm.2 with ⟨hc, h1⟩ | ⟨hc, r, hr, h1⟩
  · refine .inl ⟨h1, sf _ ?_⟩
    rw [decide_eq_true hc]; exact j0t
  · obtain ⟨s, hs, h2⟩ := sLfc_loop d m hd.1 hd.2 1000000000000 1 1000000000000 (by decide) (by decide) (by decide) (by decide) (by rw [show (1 : Int) - 1 = 0 by decide, cnt_zero d hd.1]; omega) hc
    obtain rfl := lfc_uniq hd.1 hd.2 hr hs
    refine .inr ⟨hd.1, hd.2, r, hr, h1, sf _ ?_⟩
    rw [decide_eq_false (by omega)]
    exact ev_succ (by simp only [spec_LeastForCount.j0]; exact ev_neg (by decide) h2)

/-! ### choices out of bytes: each of them is made -/
def Bytes (l : List Int) : Prop := ∀ x ∈ l, (Lit.int .u8 x).wf = true
theorem byte_range {l : List Int} (h : Bytes l) {i : Int} (h0 : 0 ≤ i) (h1 : i < (l.length : Int)) : 0 ≤ rd l i ∧ rd l i ≤ 255 := by
  have hm : rd l i ∈ l := by
    unfold rd
    rw [List.getD_eq_getElem?_getD, List.getElem?_eq_getElem (by omega)]
    exact List.getElem_mem _
  have := h _ hm
  have h2 := by simpa only [Lit.wf, Bool.and_eq_true, decide_eq_true_eq] using this
  exact ⟨h2.1, h2.2⟩
theorem and255 (x : Int) (h0 : 0 ≤ x) (h1 : x < 18446744073709551616) : 0 ≤ Go.bits .and .u64 x 255 ∧ Go.bits .and .u64 x 255 ≤ 255 := by
  obtain ⟨n, rfl⟩ : ∃ n : Nat, x = (n : Int) := ⟨x.toNat, by omega⟩
  have h := bits_and_u64_nat n 255 (by omega) (by omega)
  have h2 := Nat.and_le_right (n := n) (m := 255)
  rw [show ((255 : Nat) : Int) = 255 from rfl] at h
  rw [h]
  omega
theorem u64_range (x : Int) : 0 ≤ IntKind.u64.wrap x ∧ IntKind.u64.wrap x < 18446744073709551616 := by
  rw [IntKind.wrap_u64]; omega
theorem tail255 (x : Int) : ∃ v, wrap64 (Go.bits .and .u64 (IntKind.u64.wrap x / 1099511627776) 255) = v ∧ 0 ≤ v ∧ v ≤ 255 := by
  have h := u64_range x
  have h2 := and255 (IntKind.u64.wrap x / 1099511627776) (by omega) (by omega)
  exact ⟨_, wrap_of (by omega) (by omega), h2.1, h2.2⟩
theorem next_ok (l : List Int) (hl : Bytes l) (a s : Int) (h0 : 0 ≤ a) (h1 : a ≤ 1000000000000) : ∃ v s', spec_l1Cur_next.f l a s = some (v, a + 1, s') ∧ 0 ≤ v ∧ v ≤ 255 := by
  unfold spec_l1Cur_next.f
  have hw : wrap64 (a + 1) = a + 1 := wrap_of (by omega) (by omega)
  rw [hw]
  by_cases c : a < (l.length : Int)
  · have hb := byte_range hl h0 c
    rw [if_pos c, if_pos h0, if_pos (by omega), wrap_of (x := rd l a) (by omega) (by omega)]
    exact ⟨_, _, rfl, hb.1, hb.2⟩
  · rw [if_neg c, if_neg (by omega)]
    obtain ⟨v, hv, g⟩ := tail255 (IntKind.u64.wrap (IntKind.u64.wrap (s * 6364136223846793005)) + 1442695040888963407)
    rw [hv]
    exact ⟨v, _, rfl, g.1, g.2⟩
theorem tmod_range {x n : Int} (h0 : 0 ≤ x) (hn : 0 < n) : 0 ≤ Int.tmod x n ∧ Int.tmod x n < n := by
  rw [Int.tmod_eq_emod_of_nonneg h0]
  exact ⟨Int.emod_nonneg _ (by omega), Int.emod_lt_of_pos _ hn⟩
theorem pick_ok (l : List Int) (hl : Bytes l) (a s n : Int) (h0 : 0 ≤ a) (h1 : a ≤ 900000000000) : ∃ v a' s', spec_l1Cur_pick.f l a s n = some (v, a', s') ∧ 0 ≤ v ∧ (v < n ∨ v = 0) ∧ a ≤ a' ∧ a' ≤ a + 2 := by
  unfold spec_l1Cur_pick.f
  by_cases c : n ≤ 1
  · rw [if_pos c]
    exact ⟨0, a, s, rfl, Int.le_refl 0, .inr rfl, Int.le_refl a, by omega⟩
  · rw [if_neg c]
    obtain ⟨v, s1, hv, v0, v1⟩ := next_ok l hl a s h0 (by omega)
    rw [hv]
    simp only [Option.bind_some]
    by_cases c2 : n > 200
    · rw [if_pos c2]
      obtain ⟨u, s2, hu, u0, u1⟩ := next_ok l hl (a + 1) s1 (by omega) (by omega)
      rw [hu]
      simp only [Option.bind_some]
      rw [if_neg (by omega), wrap_of (x := v * 256) (by omega) (by omega), wrap_of (x := v * 256 + u) (by omega) (by omega)]
      have ht := tmod_range (x := v * 256 + u) (n := n) (by omega) (by omega)
      exact ⟨_, _, _, rfl, ht.1, .inl ht.2, by omega, by omega⟩
    · rw [if_neg c2, if_neg (by omega)]
      have ht := tmod_range (x := v) (n := n) v0 (by omega)
      exact ⟨_, _, _, rfl, ht.1, .inl ht.2, by omega, by omega⟩
theorem among_ok (l : List Int) (hl : Bytes l) (a s : Int) (m : List Int) (hm : 0 < m.length) (h0 : 0 ≤ a) (h1 : a ≤ 900000000000) : ∃ v a' s', spec_l1Cur_among.f l a s m = some (v, a', s') ∧ v ∈ m ∧ a ≤ a' ∧ a' ≤ a + 2 := by
  unfold spec_l1Cur_among.f
  obtain ⟨v, a', s', hv, v0, v1, g⟩ := pick_ok l hl a s (m.length : Int) h0 h1
  rw [hv]
  simp only [Option.bind_some]
  have hlt : v < (m.length : Int) := by rcases v1 with h | h <;> omega
  rw [if_pos v0, if_pos hlt]
  refine ⟨_, a', s', rfl, ?_, g⟩
  unfold rd
  rw [List.getD_eq_getElem?_getD, List.getElem?_eq_getElem (by omega)]
  exact List.getElem_mem _

/-! ### numbers and digits drawn -/
theorem written_ok (l : List Int) (hl : Bytes l) (a s : Int) (h0 : 0 ≤ a) (h1 : a ≤ 800000000000) : ∃ v a' s', spec_l1Cur_written.f l a s = some (v, a', s') ∧ a ≤ a' ∧ a' ≤ a + 20 := by
  unfold spec_l1Cur_written.f
  obtain ⟨x, a1, s1, hx, _, _, g1, g2⟩ := pick_ok l hl a s 10 h0 (by omega)
  rw [hx]
  simp only [Option.bind_some]
  by_cases c : x = 0
  · rw [if_pos c]
    obtain ⟨y, a2, s2, hy, _, e1, e2⟩ := among_ok l hl a1 s1 [0, (-1), 1000000000000, 1000000000001, 4611686018427387904] (by decide) (by omega) (by omega)
    rw [hy]
    exact ⟨_, a2, s2, rfl, by omega, by omega⟩
  rw [if_neg c]
  by_cases c1 : x = 1
  · rw [if_pos c1]
    obtain ⟨y, a2, s2, hy, _, e1, e2⟩ := among_ok l hl a1 s1 [9, 10, 99, 100, 999, 1000, 999999999999, 99999, 100000] (by decide) (by omega) (by omega)
    rw [hy]
    exact ⟨_, a2, s2, rfl, by omega, by omega⟩
  rw [if_neg c1]
  by_cases c2 : x = 2
  · rw [if_pos c2]
    obtain ⟨y, a2, s2, hy, _, _, e1, e2⟩ := pick_ok l hl a1 s1 200 (by omega) (by omega)
    rw [hy]
    simp only [Option.bind_some]
    obtain ⟨z, a3, s3, hz, _, _, f1, f2⟩ := pick_ok l hl a2 s2 200 (by omega) (by omega)
    rw [hz]
    simp only [Option.bind_some]
    obtain ⟨u, a4, s4, hu, _, _, f3, f4⟩ := pick_ok l hl a3 s3 200 (by omega) (by omega)
    rw [hu]
    simp only [Option.bind_some]
    obtain ⟨v, a5, s5, hv, _, _, f5, f6⟩ := pick_ok l hl a4 s4 200 (by omega) (by omega)
    rw [hv]
    exact ⟨_, a5, s5, rfl, by omega, by omega⟩
  rw [if_neg c2]
  obtain ⟨y, a2, s2, hy, _, _, e1, e2⟩ := pick_ok l hl a1 s1 200 (by omega) (by omega)
  rw [hy]
  simp only [Option.bind_some]
  obtain ⟨z, a3, s3, hz, _, _, f1, f2⟩ := pick_ok l hl a2 s2 30 (by omega) (by omega)
  rw [hz]
  simp only [Option.bind_some]
  obtain ⟨u, a4, s4, hu, _, _, f3, f4⟩ := pick_ok l hl a3 s3 10 (by omega) (by omega)
  rw [hu]
  exact ⟨_, a4, s4, rfl, by omega, by omega⟩
theorem one_ok (l : List Int) (hl : Bytes l) (a s n : Int) (h0 : 0 ≤ a) (h1 : a ≤ 900000000000) : ∃ v a' s', spec_l1Cur_one.f l a s n = some (v, a', s') ∧ a ≤ a' ∧ a' ≤ a + 2 := by
  unfold spec_l1Cur_one.f
  obtain ⟨v, a', s', hv, _, _, g⟩ := pick_ok l hl a s n h0 h1
  rw [hv]
  exact ⟨_, a', s', rfl, g⟩
theorem digit_ok (l : List Int) (hl : Bytes l) (a s : Int) (h0 : 0 ≤ a) (h1 : a ≤ 800000000000) : ∃ v a' s', spec_l1Cur_digit.f l a s = some (v, a', s') ∧ a ≤ a' ∧ a' ≤ a + 20 := by
  unfold spec_l1Cur_digit.f
  obtain ⟨x, a1, s1, hx, g1, g2⟩ := one_ok l hl a s 14 h0 (by omega)
  rw [hx]
  simp only [Option.bind_some]
  by_cases c : x = true
  · rw [if_pos c]
    obtain ⟨y, a2, s2, hy, _, e1, e2⟩ := among_ok l hl a1 s1 [(-1), 10, 4611686018427387904] (by decide) (by omega) (by omega)
    rw [hy]
    exact ⟨_, a2, s2, rfl, by omega, by omega⟩
  · rw [if_neg c]
    obtain ⟨y, a2, s2, hy, _, _, e1, e2⟩ := pick_ok l hl a1 s1 10 (by omega) (by omega)
    rw [hy]
    exact ⟨_, a2, s2, rfl, by omega, by omega⟩
theorem drawCounts_ok (l : List Int) (hl : Bytes l) : ∃ v, spec_DrawDigitCounts.f l = some v := by
  obtain ⟨v, a, s, h, _⟩ := written_ok l hl 0 0 (by omega) (by omega)
  unfold spec_DrawDigitCounts.f spec_DrawDigitsWritten.f
  rw [h]
  exact ⟨_, rfl⟩
theorem drawLfc_ok (l : List Int) (hl : Bytes l) : ∃ v w, spec_DrawLeastForCount.f l = some (v, w) := by
  obtain ⟨v, a, s, h, g1, g2⟩ := digit_ok l hl 0 0 (by omega) (by omega)
  obtain ⟨y, a2, s2, hy, _, e1, e2⟩ := among_ok l hl a s [1, 2, 10, 20, 21, 100, 300, 1000, 1000000000000, 1000000000001, 0] (by decide) (by omega) (by omega)
  unfold spec_DrawLeastForCount.f
  rw [h]
  simp only [Option.bind_some]
  rw [hy]
  exact ⟨_, _, rfl⟩
theorem drawCD_ok (l : List Int) (hl : Bytes l) : ∃ v w, spec_DrawCountDigit.f l = some (v, w) := by
  obtain ⟨v, a, s, h, g1, g2⟩ := written_ok l hl 0 0 (by omega) (by omega)
  obtain ⟨y, a2, s2, hy, e1, e2⟩ := digit_ok l hl a s (by omega) (by omega)
  unfold spec_DrawCountDigit.f
  rw [h]
  simp only [Option.bind_some]
  rw [hy]
  exact ⟨_, _, rfl⟩

/-! ### the law's own loops -/
theorem eSame_refl (l : List Int) (hl : l.length ≤ 1000000) : Ev (fun k => laws_eSame.f k l l) true := by
  have go : ∀ d i : Nat, i + d = l.length → Ev (fun k => laws_eSame.l0 k l l (l.length : Int) (i : Int)) true := by
    intro d
    induction d with
    | zero =>
      intro i hi
      refine ev_succ ?_
      simp only [laws_eSame.l0]
      exact ev_neg (by omega) (ev_eq fun _ => rfl)
    | succ d ih =>
      intro i hi
      refine ev_succ ?_
      simp only [laws_eSame.l0]
      rw [wrap_nat (by omega)]
      exact ev_pos (by omega) (ev_pos (by omega) (ev_pos (by omega) (ev_pos (by omega) (ev_pos trivial (ih (i + 1) (by omega))))))
  unfold laws_eSame.f
  exact ev_pos (by trivial) (go l.length 0 (by omega))
def ps (n : Int) : Nat → Int
  | 0 => 0
  | i + 1 => ps n i + cntO n (i : Int)
theorem ps_bd {n : Int} (hn : 0 ≤ n) (hN : n ≤ 1000000000000) : ∀ i : Nat, 0 ≤ ps n i ∧ ps n i ≤ i * 26000000000013 := by
  intro i
  induction i with
  | zero => simp [ps]
  | succ i ih => have := cnt_bd (d := (i : Int)) hn hN (by omega); rw [ps]; omega
theorem ps_ten {n : Int} (hn : 0 ≤ n) (hN : n ≤ 1000000000000) : ps n 10 = wrtO n := by
  have hall := cnt_all n.toNat (by rw [pow13]; omega)
  rw [Int.toNat_of_nonneg hn] at hall
  rw [← hall]
  simp only [ps]
  simp
theorem eSum_ev {n : Int} (hn : 0 ≤ n) (hN : n ≤ 1000000000000) : Ev (fun k => laws_eSum.f k (cl n 10)) (wrtO n) := by
  have go : ∀ f i : Nat, i + f = 10 → Ev (fun k => laws_eSum.l0 k (ps n i) (cl n 10) ((cl n 10).length : Int) (i : Int)) (wrtO n) := by
    intro f
    induction f with
    | zero =>
      intro i hi
      obtain rfl : i = 10 := by omega
      refine ev_succ ?_
      simp only [laws_eSum.l0]
      exact ev_neg (by rw [cl_len]; omega) (ev_eq fun _ => by rw [ps_ten hn hN])
    | succ f ih =>
      intro i hi
      have h := ih (i + 1) (by omega)
      have hb := ps_bd hn hN i
      have hc := cnt_bd (d := (i : Int)) hn hN (by omega)
      rw [ps] at h
      refine ev_succ ?_
      simp only [laws_eSum.l0]
      rw [cl_rd n (show i < 10 by omega), wrap_nat (by omega), wrap_of (x := ps n i + cntO n (i : Int)) (by omega) (by omega)]
      exact ev_pos (by rw [cl_len]; omega) (ev_pos (by omega) (ev_pos (by rw [cl_len]; omega) h))
  unfold laws_eSum.f
  exact go 10 0 (by omega)
theorem l2_loop {m d c cb : Int} (hm : 1 ≤ m) (hM : m ≤ 1000000000000) (h9 : 0 ≤ d ∧ d ≤ 9) (hc : wrap64 (c - cb) = hitsN m d) : ∀ f i : Nat, i + f = 13 → Ev (fun k => laws_FnDigitsWritten.l2 k d c cb true (hSum m d i) (m / 10 ^ i)) true := by
  intro f
  induction f with
  | zero =>
    intro i hi
    obtain rfl : i = 13 := by omega
    refine ev_succ ?_
    simp only [laws_FnDigitsWritten.l2]
    have e : m / 10 ^ 13 = 0 := Int.ediv_eq_zero_of_lt (by omega) (by rw [pow13]; omega)
    rw [e]
    exact ev_neg (by decide) (ev_pos (by trivial) (ev_pos (by rw [hc, hits_h]) (ev_eq fun _ => rfl)))
  | succ f ih =>
    intro i hi
    have hp := p10_pos i
    have hb := hSum_bd m d i
    refine ev_succ ?_
    simp only [laws_FnDigitsWritten.l2]
    by_cases hu : (10 : Int) ^ i ≤ m
    · have h1 : 1 ≤ m / 10 ^ i := (Int.le_ediv_iff_mul_le (by omega)).mpr (by omega)
      have hle : m / 10 ^ i ≤ m := Int.ediv_le_self _ (by omega)
      have hn := ih (i + 1) (by omega)
      rw [hSum, hit_in _ _ _ (by omega) hp hu, ← div_pow_step m i (by omega)] at hn
      have e1 : wrap64 (Int.tdiv (m / 10 ^ i) 10) = m / 10 ^ i / 10 := by
        rw [Int.tdiv_eq_ediv_of_nonneg (by omega), wrap_of (by omega) (by omega)]
      rw [e1, Int.tmod_eq_emod_of_nonneg (by omega), wrap_of (x := hSum m d i + 1) (by omega) (by omega)]
      refine ev_pos (by omega) ?_
      by_cases c : m / 10 ^ i % 10 = d
      · rw [if_pos c] at hn; exact ev_pos c hn
      · rw [if_neg c, Int.add_zero] at hn; exact ev_neg c hn
    · have e : m / 10 ^ i = 0 := Int.ediv_eq_zero_of_lt (by omega) (by omega)
      rw [e]
      exact ev_neg (by decide) (ev_pos (by trivial) (ev_pos (by rw [hc, hits_h, hSum_over i (by omega) 13 (by omega)]) (ev_eq fun _ => rfl)))
theorem goodN_of {n : Int} (h0 : 0 ≤ n) (h : n ≤ 1000000000000) : goodN n = true := goodN_iff.mpr ⟨h0, h⟩
theorem j7_ev {m d c : Int} (h : ccG m d = (c, true)) : Ev (fun k => laws_FnDigitsWritten.j7 k m d c (decide (m > 0))) true := by
  unfold ccG at h
  by_cases g : goodN m = true ∧ (0 ≤ d ∧ d ≤ 9)
  · rw [if_pos g] at h
    have hc : cntO m d = c := congrArg Prod.fst h
    have hg := goodN_iff.mp g.1
    refine ev_succ ?_
    simp only [laws_FnDigitsWritten.j7]
    by_cases hm : m > 0
    · refine ev_pos (decide_eq_true hm) ?_
      rw [wrap_of (x := m - 1) (by omega) (by omega)]
      have h2 := iCC_ev (m - 1) d
      have e : ccG (m - 1) d = (cntO (m - 1) d, true) := by unfold ccG; rw [if_pos ⟨goodN_of (by omega) (by omega), g.2⟩]
      rw [e] at h2
      have hb := cnt_bd (d := d) hg.1 hg.2 g.2.1
      have hb2 := cnt_bd (n := m - 1) (d := d) (by omega) (by omega) g.2.1
      have hst := cnt_step m d (by omega) g.2.1 g.2.2
      have hl := l2_loop (m := m) (d := d) (c := c) (cb := cntO (m - 1) d) (by omega) hg.2 g.2 (by rw [wrap_of (by omega) (by omega)]; omega) 13 0 (by omega)
      have e0 : m / 10 ^ 0 = m := by simp
      rw [e0] at hl
      exact Ev.bind h2 hl
    · exact ev_neg (by simpa using hm) (ev_eq fun _ => rfl)
  · rw [if_neg g] at h; cases h
theorem j6_ev {m d : Int} : Ev (fun k => laws_FnDigitsWritten.j6 k m d (ccG m d).1 (ccG m d).2) true := by
  refine ev_succ ?_
  simp only [laws_FnDigitsWritten.j6]
  by_cases c : (ccG m d).2 = true
  · exact ev_pos c (j7_ev (Prod.ext rfl c))
  · refine ev_neg c (ev_succ ?_)
    simp only [laws_FnDigitsWritten.j7]
    exact ev_neg (by decide) (ev_eq fun _ => rfl)
theorem j5_ev (l : List Int) (hl : Bytes l) : Ev (fun k => laws_FnDigitsWritten.j5 k l) true := by
  obtain ⟨d, m, hd⟩ := drawLfc_ok l hl
  obtain ⟨x, y, hx⟩ := drawCD_ok l hl
  refine ev_succ ?_
  simp only [laws_FnDigitsWritten.j5]
  refine ev_bind hd ?_
  rcases lfc_both d m with ⟨h1, h2⟩ | ⟨h0, h9, r, hr, h1, h2⟩
  · refine Ev.bind h1 (Ev.bind h2 (ev_bind hx (Ev.bind (iCC_ev x y) (Ev.bind (sCC_ev x y) ?_))))
    exact ev_neg (by simp) (ev_pos (by trivial) (ev_neg (by simp) (ev_pos (by trivial) (ev_neg (by simp) j6_ev))))
  · refine Ev.bind h1 (Ev.bind h2 (ev_bind hx (Ev.bind (iCC_ev x y) (Ev.bind (sCC_ev x y) ?_))))
    obtain ⟨r1, r2, r3, r4⟩ := hr
    refine ev_neg (by simp) (ev_pos (by trivial) (ev_neg (by simp) (ev_pos (by trivial) (ev_pos (by trivial) (Ev.bind (iCC_ev r d) ?_)))))
    rw [wrap_of (x := r - 1) (by omega) (by omega)]
    refine Ev.bind (iCC_ev (r - 1) d) ?_
    have e1 : ccG r d = (cntO r d, true) := by unfold ccG; rw [if_pos ⟨goodN_of (by omega) r2, h0, h9⟩]
    have e2 : ccG (r - 1) d = (cntO (r - 1) d, true) := by unfold ccG; rw [if_pos ⟨goodN_of (by omega) (by omega), h0, h9⟩]
    rw [e1, e2]
    exact ev_pos (by trivial) (ev_neg (by dsimp only; omega) (ev_pos (by trivial) (ev_neg (by dsimp only; omega) j6_ev)))
theorem l1_loop (l : List Int) (hl : Bytes l) {n r : Int} (hp : placeP n r) : ∀ (f : Nat) (k : Int), k + f = wrtO r → n ≤ k → 0 ≤ n → wrtO r ≤ 1000000000000000 → Ev (fun q => laws_FnDigitsWritten.l1 q l (digP n r) (wrtO r) (r / 10 ^ (k - n).toNat) k) true := by
  intro f
  have hr0 : 0 ≤ r := by have := hp.1; omega
  have hrN := hp.2.1
  induction f with
  | zero =>
    intro k hk hn h0 hw
    refine ev_succ ?_
    simp only [laws_FnDigitsWritten.l1]
    refine ev_neg (by omega) (ev_pos ?_ (j5_ev l hl))
    unfold digP
    rw [Int.tmod_eq_emod_of_nonneg (Int.ediv_nonneg hr0 (by have := p10_pos (k - n).toNat; omega)), show k = wrtO r by omega]
  | succ f ih =>
    intro k hk hn h0 hw
    have h := ih (k + 1) (by omega) (by omega) h0 hw
    rw [show (k + 1 - n).toNat = (k - n).toNat + 1 by omega, ← div_pow_step r _ hr0] at h
    have hq : 0 ≤ r / 10 ^ (k - n).toNat := Int.ediv_nonneg hr0 (by have := p10_pos (k - n).toNat; omega)
    have hle : r / 10 ^ (k - n).toNat ≤ r := Int.ediv_le_self _ hr0
    refine ev_succ ?_
    simp only [laws_FnDigitsWritten.l1]
    rw [Int.tdiv_eq_ediv_of_nonneg hq, wrap_of (x := r / 10 ^ (k - n).toNat / 10) (by omega) (by omega), wrap_of (x := k + 1) (by omega) (by omega)]
    exact ev_pos (by omega) h
theorem wrt_bd {n : Int} (hn : 0 ≤ n) (hN : n ≤ 1000000000000) : 0 ≤ wrtO n ∧ wrtO n ≤ 11888888888902 := by
  have h1 := wrt_mono hn
  have h2 := wrt_mono hN
  rw [wrt_zero] at h1
  rw [wrt_top] at h2
  exact ⟨h1, h2⟩
theorem wrG_in {n : Int} (hn : 0 ≤ n) (hN : n ≤ 1000000000000) : wrG n = (wrtO n, true) := by unfold wrG; rw [if_pos (goodN_of hn hN)]
theorem sgG_in {n : Int} (hn : 0 ≤ n) (hN : n ≤ 1000000000000) : sgG n = (sg n 10, true) := by unfold sgG; rw [if_pos (goodN_of hn hN)]
theorem j3f_ev (l : List Int) (hl : Bytes l) (n a b c : Int) : Ev (fun k => laws_FnDigitsWritten.j3 k l n a false b c) true := by
  refine ev_succ ?_
  simp only [laws_FnDigitsWritten.j3]
  exact ev_neg (by decide) (j5_ev l hl)
theorem j3t_ev (l : List Int) (hl : Bytes l) {n r : Int} (hn : 1 ≤ n) (hp : placeP n r) : Ev (fun k => laws_FnDigitsWritten.j3 k l n (digP n r) true r (n - wrtO (r - 1))) true := by
  have hp' := hp
  obtain ⟨r1, r2, r3, r4⟩ := hp'
  have hb := wrt_bd (n := r) (by omega) r2
  have hb2 := wrt_bd (n := r - 1) (by omega) (by omega)
  have hd : 0 ≤ digP n r ∧ digP n r ≤ 9 := by unfold digP; omega
  refine ev_succ ?_
  simp only [laws_FnDigitsWritten.j3]
  rw [wrap_of (x := r - 1) (by omega) (by omega)]
  refine ev_pos (by trivial) (Ev.bind (iWr_ev (r - 1)) (Ev.bind (iWr_ev r) ?_))
  rw [wrG_in (show 0 ≤ r - 1 by omega) (by omega), wrG_in (show 0 ≤ r by omega) r2]
  refine ev_neg (by omega) (ev_neg (by omega) (ev_neg (by omega) (ev_neg (by omega) (ev_pos (by trivial) (ev_pos ?_ (ev_pos (by trivial) (ev_neg (by dsimp only; omega) ?_)))))))
  · dsimp only; rw [wrap_of (by omega) (by omega)]; omega
  · have h := l1_loop l hl hp (wrtO r - n).toNat n (by omega) (by omega) (by omega) (by omega)
    have e : r / 10 ^ (n - n).toNat = r := by rw [show (n - n).toNat = 0 by omega]; simp
    rw [e] at h
    exact h
theorem j2_ev (l : List Int) {n x a b c : Int} {s : Bool} (hn : 0 ≤ n) (hx : lastP n x) (h3 : Ev (fun k => laws_FnDigitsWritten.j3 k l n a s b c) true) : Ev (fun k => laws_FnDigitsWritten.j2 k l n x a s b c) true := by
  obtain ⟨x1, x2, x3, x4⟩ := hx
  refine ev_succ ?_
  simp only [laws_FnDigitsWritten.j2]
  refine Ev.bind (iWr_ev x) ?_
  rw [wrG_in x1 x2]
  refine ev_pos (by trivial) (ev_neg (by dsimp only; omega) ?_)
  by_cases c : x < 1000000000000
  · rw [wrap_of (x := x + 1) (by omega) (by omega)]
    refine ev_pos c (Ev.bind (iWr_ev (x + 1)) ?_)
    rw [wrG_in (show 0 ≤ x + 1 by omega) (by omega)]
    have := x4 (x + 1) (by omega) (by omega)
    exact ev_pos (by trivial) (ev_neg (by dsimp only; omega) h3)
  · exact ev_neg c h3
theorem sg_ten (n : Int) : sg n 10 = cntO n 1 + 2 * cntO n 2 + 3 * cntO n 3 + 4 * cntO n 4 + 5 * cntO n 5 + 6 * cntO n 6 + 7 * cntO n 7 + 8 * cntO n 8 + 9 * cntO n 9 := by
  simp only [sg]
  simp
theorem sg_step (n : Nat) (h : 1 ≤ n) (hN : n ≤ 1000000000000) : sg (n : Int) 10 - sg ((n : Int) - 1) 10 = ds n := by
  have c1 := cnt_step (n : Int) 1 (by omega) (by decide) (by decide)
  have c2 := cnt_step (n : Int) 2 (by omega) (by decide) (by decide)
  have c3 := cnt_step (n : Int) 3 (by omega) (by decide) (by decide)
  have c4 := cnt_step (n : Int) 4 (by omega) (by decide) (by decide)
  have c5 := cnt_step (n : Int) 5 (by omega) (by decide) (by decide)
  have c6 := cnt_step (n : Int) 6 (by omega) (by decide) (by decide)
  have c7 := cnt_step (n : Int) 7 (by omega) (by decide) (by decide)
  have c8 := cnt_step (n : Int) 8 (by omega) (by decide) (by decide)
  have c9 := cnt_step (n : Int) 9 (by omega) (by decide) (by decide)
  have h2 := hits_d (n : Int) (by omega)
  have h3 := pSum_all n (by omega)
  rw [sg_ten, sg_ten, ← h3, ← h2]
  omega
theorem ds_bd (n : Nat) (hN : n ≤ 1000000000000) : 0 ≤ ds n ∧ ds n ≤ 117 := by
  have := ds_le 13 n (by omega)
  exact ⟨ds_nonneg n, by omega⟩
theorem l0_loop (l : List Int) {n x a b c : Int} {s : Bool} (hn : 0 ≤ n) (hN : n ≤ 1000000000000) (h2 : Ev (fun k => laws_FnDigitsWritten.j2 k l n x a s b c) true) : ∀ f i : Nat, i + f = 10 → Ev (fun k => laws_FnDigitsWritten.l0 k l n (cl n 10) (wrtO n) (sg n 10) x a s b c (sg n i) (cl n 10) ((cl n 10).length : Int) (i : Int)) true := by
  intro f
  induction f with
  | zero =>
    intro i hi
    obtain rfl : i = 10 := by omega
    refine ev_succ ?_
    simp only [laws_FnDigitsWritten.l0]
    refine ev_neg (by rw [cl_len]; omega) (ev_pos (by trivial) ?_)
    by_cases c : n > 0
    · rw [wrap_of (x := n - 1) (by omega) (by omega)]
      obtain ⟨m, rfl⟩ : ∃ m : Nat, n = (m : Int) := ⟨n.toNat, by omega⟩
      refine ev_pos c (Ev.bind (iWr_ev _) (Ev.bind (iSum_ev _) (Ev.bind (iDS_ev m (by omega)) ?_)))
      rw [wrG_in (show 0 ≤ (m : Int) - 1 by omega) (by omega), sgG_in (show 0 ≤ (m : Int) - 1 by omega) (by omega)]
      have hl := wrt_lt (n := (m : Int)) (by omega) (by rw [pow13]; omega)
      have hb := wrt_bd hn hN
      have hb2 := wrt_bd (n := (m : Int) - 1) (by omega) (by omega)
      have hs := sg_step m (by omega) (by omega)
      have hd := ds_bd m (by omega)
      have e1 : wrap64 (wrtO (m : Int) - wrtO ((m : Int) - 1)) = wrtO (m : Int) - wrtO ((m : Int) - 1) := wrap_of (by omega) (by omega)
      have e2 : wrap64 (sg (m : Int) 10 - sg ((m : Int) - 1) 10) = ds m := by rw [hs, wrap_of (by omega) (by omega)]
      dsimp only
      rw [e1, e2]
      exact ev_pos (by trivial) (ev_neg (by omega) (ev_neg (by omega) (ev_pos (by trivial) (ev_pos (by trivial) (ev_pos (by trivial) h2)))))
    · exact ev_neg c h2
  | succ f ih =>
    intro i hi
    have hlt : i < 10 := by omega
    have h := ih (i + 1) (by omega)
    have ht := sg_term hn hN i (by omega)
    have hb := sg_bd hn hN i (by omega)
    have hc := cnt_bd (d := (i : Int)) hn hN (by omega)
    rw [sg] at h
    refine ev_succ ?_
    simp only [laws_FnDigitsWritten.l0]
    have e : ccG n (i : Int) = (cntO n (i : Int), true) := by unfold ccG; rw [if_pos ⟨goodN_of hn hN, by omega, by omega⟩]
    have e0 : rd (cl n 10) 0 = cntO n 0 := cl_rd n (m := 10) (i := 0) (by decide)
    rw [cl_rd n hlt, e0, wrap_nat (by omega), wrap_of (x := (i : Int) * cntO n (i : Int)) (by omega) (by omega), wrap_of (x := sg n i + (i : Int) * cntO n (i : Int)) (by omega) (by omega)]
    refine ev_pos (by rw [cl_len]; omega) (ev_pos (by omega) (ev_pos (by rw [cl_len]; omega) (Ev.bind (iCC_ev n (i : Int)) ?_)))
    rw [e]
    refine ev_pos (by trivial) (ev_pos (by trivial) (ev_neg (by omega) ?_))
    by_cases c : (i : Int) > 0
    · have hg := cnt_ge0 n (i : Int) hn (by omega) (by omega)
      exact ev_pos c (ev_pos (by rw [cl_len]; omega) (ev_neg (by omega) h))
    · exact ev_neg c h
theorem j0_ev (l : List Int) {n x a b c : Int} {s : Bool} (hn : 0 ≤ n) (hN : n ≤ 1000000000000) (h2 : Ev (fun k => laws_FnDigitsWritten.j2 k l n x a s b c) true) : Ev (fun k => laws_FnDigitsWritten.j0 k l n (cl n 10) true (wrtO n) (sg n 10) x a s b c false) true := by
  refine ev_succ ?_
  simp only [laws_FnDigitsWritten.j0]
  exact ev_neg (by decide) (ev_pos (by trivial) (ev_pos (by rw [cl_len]; rfl) (Ev.bind (eSum_ev hn hN) (ev_pos (by trivial) (l0_loop l hn hN h2 10 0 (by omega))))))
theorem FnDigitsWritten : laws_FnDigitsWritten.Pure := by
  intro l0 l1 hl0 hb0 hw0 hl1 hb1 hw1
  refine Ev.rounds ?_
  unfold laws_FnDigitsWritten.f laws_big.f
  by_cases hbig : (l0.length : Int) > 1048576
  · rw [if_pos hbig]; exact ev_bind rfl (ev_pos rfl (ev_eq fun _ => rfl))
  rw [if_neg hbig]
  by_cases hb : decide ((l1.length : Int) > wrap64 (1048576 - (l0.length : Int))) = true
  · exact ev_bind rfl (ev_pos hb (ev_eq fun _ => rfl))
  refine ev_bind rfl (ev_neg hb ?_)
  obtain ⟨n, hn⟩ := drawCounts_ok l0 hw0
  refine ev_bind hn ?_
  by_cases g : goodN n = true
  · have h := goodN_iff.mp g
    obtain ⟨x, hx, e1, _, e2⟩ := last_both n h.1 h.2
    have ec : clG n = (cl n 10, true) := by unfold clG; rw [if_pos g]
    refine Ev.bind (iDC_ev n) (Ev.bind (sDC_ev n) (Ev.bind (iWr_ev n) (Ev.bind (sWr_ev n) (Ev.bind (iSum_ev n) (Ev.bind (sSum_ev n) (Ev.bind e1 (Ev.bind e2 ?_)))))))
    rw [ec, wrG_in h.1 h.2, sgG_in h.1 h.2]
    by_cases p : 1 ≤ n ∧ n ≤ 1000000000000
    · obtain ⟨r, hr, p1, p2, p3, p4⟩ := place_both n p.1 p.2
      refine Ev.bind p3 (Ev.bind p4 (Ev.bind p1 (Ev.bind p2 ?_)))
      refine ev_neg (by simp) (Ev.bind (eSame_refl (cl n 10) (by rw [cl_len]; decide)) (ev_pos rfl (ev_neg (by simp) (ev_pos rfl (ev_neg (by simp) (ev_pos rfl (ev_neg (by simp) (ev_pos rfl (ev_neg (by simp) (ev_pos rfl (ev_neg (by simp) (ev_pos rfl (ev_pos rfl (ev_neg (by simp) (ev_neg (by simp) (ev_neg (by simp) (ev_neg (by simp) (ev_pos rfl ?_))))))))))))))))))
      exact j0_ev l1 h.1 h.2 (j2_ev l1 h.1 hx (j3t_ev l1 hw1 p.1 hr))
    · obtain ⟨p1, p2, p3, p4⟩ := place_none n p
      refine Ev.bind p3 (Ev.bind p4 (Ev.bind p1 (Ev.bind p2 ?_)))
      refine ev_neg (by simp) (Ev.bind (eSame_refl (cl n 10) (by rw [cl_len]; decide)) (ev_pos rfl (ev_neg (by simp) (ev_pos rfl (ev_neg (by simp) (ev_pos rfl (ev_neg (by simp) (ev_pos rfl (ev_neg (by simp) (ev_pos rfl (ev_neg (by simp) (ev_pos rfl (ev_pos rfl (ev_neg (by simp) (ev_neg (by simp) (ev_neg (by simp) (ev_neg (by simp) (ev_neg (by simp) ?_))))))))))))))))))
      exact j0_ev l1 h.1 h.2 (j2_ev l1 h.1 hx (j3f_ev l1 hw1 n 0 0 0))
  · have ec : clG n = ([], false) := by unfold clG; rw [if_neg g]
    have ew : wrG n = (0, false) := by unfold wrG; rw [if_neg g]
    have es : sgG n = (0, false) := by unfold sgG; rw [if_neg g]
    have hng : ¬ (0 ≤ n ∧ n ≤ 1000000000000) := fun h => g (goodN_iff.mpr h)
    have e1 : Ev (fun k => impl_LastWritten.f k n) (0, false) := by
      unfold impl_LastWritten.f; exact ev_bind (isWritten_eq n) (ev_neg g (ev_eq fun _ => rfl))
    have e2 : Ev (fun k => spec_LastWritten.f k n) (0, false) := by
      unfold spec_LastWritten.f; exact ev_bind (diGood_eq n) (ev_neg g (ev_eq fun _ => rfl))
    obtain ⟨p1, p2, p3, p4⟩ := place_none n (fun h => hng ⟨by omega, h.2⟩)
    refine Ev.bind (iDC_ev n) (Ev.bind (sDC_ev n) (Ev.bind (iWr_ev n) (Ev.bind (sWr_ev n) (Ev.bind (iSum_ev n) (Ev.bind (sSum_ev n) (Ev.bind e1 (Ev.bind e2 ?_)))))))
    rw [ec, ew, es]
    refine Ev.bind p3 (Ev.bind p4 (Ev.bind p1 (Ev.bind p2 ?_)))
    refine ev_neg (by simp) (Ev.bind (eSame_refl [] (by decide)) (ev_pos rfl (ev_neg (by simp) (ev_pos rfl (ev_neg (by simp) (ev_pos rfl (ev_neg (by simp) (ev_pos rfl (ev_neg (by simp) (ev_pos rfl (ev_neg (by simp) (ev_pos rfl (ev_pos rfl (ev_neg (by simp) (ev_neg (by simp) (ev_neg (by simp) (ev_neg (by simp) (ev_neg (by simp) ?_))))))))))))))))))
    refine ev_succ ?_
    simp only [laws_FnDigitsWritten.j0]
    exact ev_neg (by simp) (ev_neg (by simp) (j3f_ev l1 hw1 n 0 0 0))

end Go.Proofs.YtiobgaeambfcbaaDoor.Pure

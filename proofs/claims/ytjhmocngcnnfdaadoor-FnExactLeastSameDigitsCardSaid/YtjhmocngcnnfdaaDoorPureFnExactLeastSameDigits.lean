/- LeastSameDigits: program and reference tell the same of every number (lists and numbers alone). -/
import Derived.Test.YtjhmocngcnnfdaaDoorPFnExactLeastSameDigitsx2
namespace Go.Proofs.YtjhmocngcnnfdaaDoor.Pure
open Go.RowKit Go.Proofs.YtjhmocngcnnfdaaDoor.PFnExactLeastSameDigits Go.Proofs.YtjhmocngcnnfdaaDoorW.PrintWords Go.Proofs.YtjhmocngcnnfdaaDoorW.PrintLast
set_option linter.unusedVariables false
set_option linter.unusedSimpArgs false

theorem wrap_of {x : Int} (h0 : -9223372036854775808 ≤ x) (h1 : x ≤ 9223372036854775807) : wrap64 x = x := by unfold wrap64; omega
theorem wrap_nat {i : Nat} (h : i < 4611686018427387904) : wrap64 ((i : Int) + 1) = ((i + 1 : Nat) : Int) := by unfold wrap64; omega
theorem ev_eq {α : Type} {g : Nat → Option α} {r : α} (h : ∀ k, g k = some r) : Ev g r := ⟨0, fun k _ => h k⟩
theorem ev_bind {α β : Type} {x : Option α} {f : Nat → α → Option β} {a : α} {r : β} (h : x = some a) (k : Ev (fun n => f n a) r) : Ev (fun n => x.bind (f n)) r := by subst h; exact k
theorem ev_pos {α : Type} {c : Prop} [Decidable c] {g f : Nat → Option α} {r : α} (h : c) (k : Ev g r) : Ev (fun n => if c then g n else f n) r := by simp only [if_pos h]; exact k
theorem ev_neg {α : Type} {c : Prop} [Decidable c] {g f : Nat → Option α} {r : α} (h : ¬ c) (k : Ev f r) : Ev (fun n => if c then g n else f n) r := by simp only [if_neg h]; exact k
theorem ev_from {α : Type} {g : Nat → Option α} {r : α} (K : Nat) (h : ∀ k, K ≤ k → g k = some r) : Ev g r := ⟨K, h⟩
theorem l1In_eq (n lo hi : Int) : spec_l1In.f n lo hi = some (decide (lo ≤ n ∧ n ≤ hi)) := by
  unfold spec_l1In.f
  by_cases h : n ≥ lo
  · rw [if_pos h]; congr 1; simp; intro _; omega
  · rw [if_neg h]; congr 1; simp; intro; omega
theorem within_eq (n lo hi : Int) : impl_within.f n lo hi = some (decide (lo ≤ n ∧ n ≤ hi)) := by
  unfold impl_within.f
  by_cases h : lo ≤ n
  · rw [if_pos h]; congr 1; simp; intro _; omega
  · rw [if_neg h]; congr 1; simp; intro; omega

/-! ### bytes of a text -/
theorem size_len (t : ByteArray) : t.data.toList.length = t.size := by rw [Array.length_toList]; rfl
theorem bt_get (t : ByteArray) (i : Nat) (h : i < t.data.toList.length) : bt t (i : Int) = ((t.data.toList[i]).toNat : Int) := by
  unfold bt
  rw [dif_pos (by rw [Int.toNat_natCast]; simpa using h)]
  simp only [Int.toNat_natCast]
  rfl
theorem ev_succ {α : Type} {g : Nat → Option α} {r : α} (h : Ev (fun k => g (k + 1)) r) : Ev g r := by
  obtain ⟨K, hK⟩ := h
  refine ev_from (K + 1) (fun k hk => ?_)
  obtain ⟨k, rfl⟩ : ∃ m, k = m + 1 := ⟨k - 1, by omega⟩
  exact hK k (by omega)
theorem ext_list (s : ByteArray) (a b : Nat) (hb : b ≤ s.size) : (s.extract a b).data.toList = (s.data.toList.take b).drop a := by
  rw [ByteArray.data_extract, Array.toList_extract, List.extract_eq_take_drop]
  rw [List.drop_take]
theorem take_list (s : ByteArray) (i : Nat) (h : i ≤ s.size) : (s.extract 0 i).data.toList = s.data.toList.take i := by rw [ext_list s 0 i h]; rfl
theorem drop_list (s : ByteArray) (i : Nat) : (s.extract i s.size).data.toList = s.data.toList.drop i := by
  rw [ext_list s i s.size (Nat.le_refl _), List.take_of_length_le (by rw [size_len]; exact Nat.le_refl _)]
theorem mk_data (s : ByteArray) : (⟨s.data.toList.toArray⟩ : ByteArray) = s := by cases s; simp
theorem of_list {s : ByteArray} {l : List UInt8} (h : s.data.toList = l) : s = ⟨l.toArray⟩ := by rw [← h, mk_data]
theorem list_of (l : List UInt8) : (⟨l.toArray⟩ : ByteArray).data.toList = l := by simp
theorem mk_size (l : List UInt8) : (⟨l.toArray⟩ : ByteArray).size = l.length := by rw [← size_len, list_of]
theorem mk_append (a b : List UInt8) : (⟨a.toArray⟩ : ByteArray) ++ ⟨b.toArray⟩ = ⟨(a ++ b).toArray⟩ := by
  apply of_list; rw [ByteArray.data_append, Array.toList_append, list_of, list_of]

/-! ### the digits of a number, sorted -/
def dgs (n : Nat) : List Nat := if h : n < 10 then [n] else dgs (n / 10) ++ [n % 10]
termination_by n
decreasing_by omega
theorem dgs_small {n : Nat} (h : n < 10) : dgs n = [n] := by rw [dgs, dif_pos h]
theorem dgs_big {n : Nat} (h : ¬ n < 10) : dgs n = dgs (n / 10) ++ [n % 10] := by rw [dgs, dif_neg h]
theorem dgs_lt (n : Nat) : ∀ d ∈ dgs n, d < 10 := by
  induction n using Nat.strongRecOn with
  | _ n ih =>
    by_cases h : n < 10
    · rw [dgs_small h]; intro d hd; simp at hd; omega
    · rw [dgs_big h]
      intro d hd
      rcases List.mem_append.mp hd with hd | hd
      · exact ih (n / 10) (by omega) d hd
      · simp at hd; omega
theorem dgs_len (k : Nat) : ∀ n, n < 10 ^ (k + 1) → (dgs n).length ≤ k + 1 := by
  induction k with
  | zero => intro n h; rw [dgs_small (by simpa using h)]; simp
  | succ k ih =>
    intro n h
    by_cases h1 : n < 10
    · rw [dgs_small h1]; simp
    · rw [dgs_big h1, List.length_append]
      have := ih (n / 10) (by rw [Nat.pow_succ] at h; omega)
      simp only [List.length_singleton]; omega
theorem dgs_pos (n : Nat) : 0 < (dgs n).length := by
  by_cases h : n < 10
  · rw [dgs_small h]; simp
  · rw [dgs_big h, List.length_append]; simp
theorem dec_dgs (n : Nat) : Lib.decDigits n = (dgs n).map fun d => UInt8.ofNat (48 + d) := by
  induction n using Nat.strongRecOn with
  | _ n ih =>
    by_cases h : n < 10
    · rw [dgs_small h, Lib.decDigits, dif_pos h]; rfl
    · rw [dgs_big h, Lib.decDigits, dif_neg h, ih (n / 10) (by omega), List.map_append]; rfl
def dI (n : Nat) : List Int := (dgs n).map fun d : Nat => (d : Int)
theorem dI_len (n : Nat) : (dI n).length = (dgs n).length := by simp [dI]
theorem dI_range (n : Nat) : ∀ d ∈ dI n, 0 ≤ d ∧ d ≤ 9 := by
  intro d hd
  obtain ⟨e, he, rfl⟩ := List.mem_map.mp hd
  have := dgs_lt n e he
  omega
theorem ofNat_nat {d : Nat} (h : d < 10) : ((UInt8.ofNat (48 + d)).toNat : Int) = 48 + d := by rw [UInt8.toNat_ofNat']; omega
theorem bytesOf_itoa (n : Nat) : bytesOf ⟨(Lib.itoa (n : Int)).toArray⟩ = (dI n).map (48 + ·) := by
  unfold bytesOf Lib.itoa
  rw [if_neg (by omega), Int.toNat_natCast, dec_dgs]
  simp only [List.map_map, dI]
  apply List.map_congr_left
  intro d hd
  exact ofNat_nat (dgs_lt n d hd)
theorem itoa_size (n : Nat) : (⟨(Lib.itoa (n : Int)).toArray⟩ : ByteArray).size = (dgs n).length := by
  show (Lib.itoa (n : Int)).toArray.size = _
  unfold Lib.itoa
  rw [if_neg (by omega), Int.toNat_natCast, dec_dgs]
  simp
theorem itoa_ev (n : Nat) (h : n ≤ 9223372036854775807) : strconv_Itoa.f (n : Int) = some ⟨(Lib.itoa (n : Int)).toArray⟩ := by
  unfold strconv_Itoa.f
  rw [if_pos (by omega), if_pos (by omega)]
theorem leList_ev (n : Nat) (h : n ≤ 1000000000000) : Ev (fun k => spec_leList.f k (n : Int)) (dI n) := by
  have go : ∀ (m : Nat) (acc : List Int), m ≤ 1000000000000 → acc.length + m ≤ 2000000000000 → Ev (fun k => spec_leList.l0 k (m : Int) acc) ((if m = 0 then [] else dI m) ++ acc) := by
    intro m
    induction m using Nat.strongRecOn with
    | _ m ih =>
      intro acc hm ha
      refine ev_succ ?_
      simp only [spec_leList.l0]
      by_cases h0 : m = 0
      · subst h0
        exact ev_neg (by omega) (ev_eq fun _ => by simp)
      · refine ev_pos (by omega) ?_
        simp only [Option.bind_some, List.length_singleton]
        refine ev_pos (by omega) ?_
        rw [Int.tdiv_eq_ediv_of_nonneg (by omega), Int.tmod_eq_emod_of_nonneg (by omega), wrap_of (by omega) (by omega), show (m : Int) / 10 = ((m / 10 : Nat) : Int) by omega, show (m : Int) % 10 = ((m % 10 : Nat) : Int) by omega]
        have := ih (m / 10) (by omega) ([((m % 10 : Nat) : Int)] ++ acc) (by omega) (by simp only [List.length_append, List.length_singleton]; omega)
        have e : (if m / 10 = 0 then [] else dI (m / 10)) ++ ([((m % 10 : Nat) : Int)] ++ acc) = (if m = 0 then [] else dI m) ++ acc := by
          rw [if_neg h0, ← List.append_assoc]
          congr 1
          unfold dI
          by_cases h1 : m < 10
          · rw [if_pos (by omega), dgs_small h1, show m % 10 = m by omega]; rfl
          · rw [if_neg (by omega), dgs_big h1, List.map_append]; rfl
        rw [e] at this
        exact this
  unfold spec_leList.f
  rw [Int.tdiv_eq_ediv_of_nonneg (by omega), Int.tmod_eq_emod_of_nonneg (by omega), wrap_of (by omega) (by omega), show (n : Int) / 10 = ((n / 10 : Nat) : Int) by omega, show (n : Int) % 10 = ((n % 10 : Nat) : Int) by omega]
  have := go (n / 10) [((n % 10 : Nat) : Int)] (by omega) (by simp only [List.length_singleton]; omega)
  have e : (if n / 10 = 0 then [] else dI (n / 10)) ++ [((n % 10 : Nat) : Int)] = dI n := by
    unfold dI
    by_cases h1 : n < 10
    · rw [if_pos (by omega), dgs_small h1, show n % 10 = n by omega]; rfl
    · rw [if_neg (by omega), dgs_big h1, List.map_append]; rfl
  rw [e] at this
  exact this
/-- Digits put in order by counting. -/
def cs (l : List Int) : Nat → List Int
  | 0 => []
  | d + 1 => cs l d ++ l.filter (· == (d : Int))
theorem rd_at (l : List Int) (i : Nat) (h : i < l.length) : rd l (i : Int) = l[i] := by
  unfold rd
  rw [Int.toNat_natCast, List.getD_eq_getElem?_getD, List.getElem?_eq_getElem h]; rfl
theorem leSorted_ev (n : Nat) (h : n ≤ 1000000000000) : Ev (fun k => spec_leSorted.f k (n : Int)) (cs (dI n) 10) := by
  have hl : (dI n).length ≤ 13 := by rw [dI_len]; exact dgs_len 12 n (by omega)
  have hcs : ∀ d, (cs (dI n) d).length ≤ 13 * d := by
    intro d
    induction d with
    | zero => simp [cs]
    | succ d ih => unfold cs; rw [List.length_append]; have := List.length_filter_le (· == (d : Int)) (dI n); omega
  have inner : ∀ (R : List Int) (dd : Nat) (out : List Int) (_ : dd ≤ 9) (_ : out.length ≤ 200) (_ : Ev (fun k => spec_leSorted.l0 k (out ++ (dI n).filter (· == (dd : Int))) (dI n) (wrap64 ((dd : Int) + 1))) R) (d i : Nat), i + d = (dI n).length →
      Ev (fun k => spec_leSorted.l1 k (out ++ ((dI n).take i).filter (· == (dd : Int))) (dI n) (dd : Int) (dI n) ((dI n).length : Int) (i : Int)) R := by
    intro R dd out hdd hout hR d
    induction d with
    | zero =>
      intro i hi
      refine ev_succ ?_
      simp only [spec_leSorted.l1]
      refine ev_neg (by omega) ?_
      rw [List.take_of_length_le (by omega)]
      exact hR
    | succ d ih =>
      intro i hi
      have hlt : i < (dI n).length := by omega
      refine ev_succ ?_
      simp only [spec_leSorted.l1]
      rw [rd_at _ i hlt, wrap_nat (by omega)]
      refine ev_pos (by omega) (ev_pos (by omega) (ev_pos (by omega) ?_))
      have ht : ((dI n).take (i + 1)).filter (· == (dd : Int)) = ((dI n).take i).filter (· == (dd : Int)) ++ (if (dI n)[i] = (dd : Int) then [(dd : Int)] else []) := by
        rw [List.take_succ_eq_append_getElem hlt, List.filter_append]
        congr 1
        by_cases e : (dI n)[i] = (dd : Int)
        · rw [if_pos e, List.filter_cons_of_pos (by simpa using e), e]; rfl
        · rw [if_neg e, List.filter_cons_of_neg (by simpa using e)]; rfl
      have := ih (i + 1) (by omega)
      rw [ht] at this
      by_cases e : (dI n)[i] = (dd : Int)
      · rw [if_pos e, ← List.append_assoc] at this
        refine ev_pos e (ev_pos ?_ this)
        rw [List.length_append]
        have := List.length_filter_le (· == (dd : Int)) ((dI n).take i)
        have h2 := List.length_take_le i (dI n)
        omega
      · rw [if_neg e, List.append_nil] at this
        exact ev_neg e this
  have outer : ∀ (d c : Nat), c + d = 10 → Ev (fun k => spec_leSorted.l0 k (cs (dI n) c) (dI n) (c : Int)) (cs (dI n) 10) := by
    intro d
    induction d with
    | zero =>
      intro c hc
      obtain rfl : c = 10 := by omega
      refine ev_succ ?_
      simp only [spec_leSorted.l0]
      exact ev_neg (by omega) (ev_eq fun _ => rfl)
    | succ d ih =>
      intro c hc
      refine ev_succ ?_
      simp only [spec_leSorted.l0]
      refine ev_pos (by omega) ?_
      have h1 := ih (c + 1) (by omega)
      have h2 := inner (cs (dI n) 10) c (cs (dI n) c) (by omega) (by have := hcs c; omega) (by rw [wrap_nat (by omega)]; exact h1) (dI n).length 0 (by omega)
      simpa using h2
  unfold spec_leSorted.f
  refine Ev.bind (leList_ev n h) ?_
  exact outer 10 0 rfl
/-- What is sorted and has the same elements is the same. -/
theorem cs_perm (l : List Int) : ∀ (d : Nat), (cs l d).Perm (l.filter fun x => decide (0 ≤ x ∧ x < (d : Int)))
  | 0 => by
    have : l.filter (fun x => decide (0 ≤ x ∧ x < ((0 : Nat) : Int))) = [] := List.filter_eq_nil_iff.mpr (fun x _ => by rw [decide_eq_true_eq]; omega)
    rw [this]; exact List.Perm.refl _
  | d + 1 => by
    unfold cs
    refine ((cs_perm l d).append_right _).trans ?_
    have h1 := List.filter_append_perm (fun x => decide (0 ≤ x ∧ x < (d : Int))) (l.filter fun x => decide (0 ≤ x ∧ x < ((d + 1 : Nat) : Int)))
    have e1 : (l.filter fun x => decide (0 ≤ x ∧ x < ((d + 1 : Nat) : Int))).filter (fun x => decide (0 ≤ x ∧ x < (d : Int))) = l.filter fun x => decide (0 ≤ x ∧ x < (d : Int)) := by
      rw [List.filter_filter]
      apply List.filter_congr
      intro x _
      rw [Bool.eq_iff_iff]; simp only [Bool.and_eq_true, decide_eq_true_eq]; omega
    have e2 : (l.filter fun x => decide (0 ≤ x ∧ x < ((d + 1 : Nat) : Int))).filter (fun x => !decide (0 ≤ x ∧ x < (d : Int))) = l.filter (· == (d : Int)) := by
      rw [List.filter_filter]
      apply List.filter_congr
      intro x _
      rw [Bool.eq_iff_iff]; simp only [Bool.and_eq_true, Bool.not_eq_true', decide_eq_true_eq, decide_eq_false_iff_not, beq_iff_eq]; omega
    rw [e1, e2] at h1
    exact h1
theorem cs_sorted (l : List Int) : ∀ (d : Nat), (cs l d).Pairwise (· ≤ ·) ∧ ∀ x ∈ cs l d, x < (d : Int)
  | 0 => ⟨List.Pairwise.nil, fun x hx => by simp [cs] at hx⟩
  | d + 1 => by
    obtain ⟨h1, h2⟩ := cs_sorted l d
    unfold cs
    refine ⟨List.pairwise_append.mpr ⟨h1, ?_, fun a ha b hb => ?_⟩, fun x hx => ?_⟩
    · refine List.Pairwise.imp_of_mem (R := fun _ _ => True) (fun {a b} ha hb _ => ?_) (List.pairwise_of_forall (fun _ _ => trivial))
      have := (List.mem_filter.mp ha).2; have := (List.mem_filter.mp hb).2
      simp at *; omega
    · have := h2 a ha; have := (List.mem_filter.mp hb).2
      simp at *; omega
    · rcases List.mem_append.mp hx with hx | hx
      · have := h2 x hx; omega
      · have := (List.mem_filter.mp hx).2; simp at this; omega
theorem sorted_map (l : List Int) (hl : ∀ x ∈ l, 0 ≤ x ∧ x ≤ 9) : SortB.sorted (l.map (48 + ·)) = (cs l 10).map (48 + ·) := by
  have hp : (cs l 10).Perm l := by
    have := cs_perm l 10
    have e : (l.filter fun x => decide (0 ≤ x ∧ x < ((10 : Nat) : Int))) = l := List.filter_eq_self.mpr (fun x hx => by have := hl x hx; simp; omega)
    rw [e] at this
    exact this
  have hs1 : (SortB.sorted (l.map (48 + ·))).Pairwise (· ≤ ·) := by
    have := List.pairwise_mergeSort (le := fun (x y : Int) => decide (x ≤ y)) (fun a b c h1 h2 => by simp at *; omega) (fun a b => by simp; omega) (l.map (48 + ·))
    exact this.imp (fun {a b} h => by simpa using h)
  have hs2 : ((cs l 10).map (48 + ·)).Pairwise (· ≤ ·) := List.pairwise_map.mpr ((cs_sorted l 10).1.imp (fun {a b} h => by omega))
  have hp2 : (SortB.sorted (l.map (48 + ·))).Perm ((cs l 10).map (48 + ·)) := (List.mergeSort_perm _ _).trans ((hp.map _).symm)
  exact hp2.eq_of_pairwise (fun a b _ _ h1 h2 => by omega) hs1 hs2
/-- The number that digits tell. -/
def val (a : Int) (l : List Int) : Int := l.foldl (fun a d => 10 * a + d) a
theorem val_range (k : Nat) : ∀ (l : List Int) (a : Int), l.length ≤ k → (∀ d ∈ l, 0 ≤ d ∧ d ≤ 9) → 0 ≤ a → 0 ≤ val a l ∧ val a l < (a + 1) * 10 ^ l.length
  | l, a, hk, hd, ha => by
    induction l generalizing a with
    | nil => simp [val]; omega
    | cons x l ih =>
      have h1 := hd x List.mem_cons_self
      have := ih (10 * a + x) (by simp at hk; omega) (fun d hd' => hd d (List.mem_cons_of_mem _ hd')) (by omega)
      refine ⟨this.1, Int.lt_of_lt_of_le this.2 ?_⟩
      rw [List.length_cons, Int.pow_succ, Int.mul_comm (10 ^ l.length) 10, ← Int.mul_assoc]
      exact Int.mul_le_mul_of_nonneg_right (by omega) (Int.pow_nonneg (by omega))
theorem pow13 (n : Nat) (h : n ≤ 13) : (10 : Int) ^ n ≤ 10000000000000 := by
  have : (10 : Int) ^ n = ((10 ^ n : Nat) : Int) := by simp
  rw [this]
  have := Nat.pow_le_pow_right (n := 10) (by decide) h
  omega
theorem val_snoc (a : Int) (l : List Int) (x : Int) : val a (l ++ [x]) = 10 * val a l + x := by unfold val; rw [List.foldl_append]; rfl
theorem val_small (l : List Int) (h : l.length ≤ 13) (hd : ∀ d ∈ l, 0 ≤ d ∧ d ≤ 9) : 0 ≤ val 0 l ∧ val 0 l < 10000000000000 := by
  have h1 := val_range 13 l 0 h hd (Int.le_refl 0)
  have h2 := pow13 l.length h
  omega
theorem bt_at' (s : ByteArray) (xs : List Int) (hs : bytesOf s = xs) (i : Nat) (hi : i < xs.length) : bt s (i : Int) = xs[i] := by
  rw [← rd_bytesOf, hs, rd_at _ i hi]
theorem numberOf_ev (l : List Int) (h : l.length ≤ 13) (hd : ∀ d ∈ l, 0 ≤ d ∧ d ≤ 9) : Ev (fun k => impl_numberOf.f k (strOfNums (l.map (48 + ·)))) (val 0 l) := by
  have hb : bytesOf (strOfNums (l.map (48 + ·))) = l.map (48 + ·) := by
    unfold bytesOf strOfNums
    simp only [List.map_map]
    apply List.map_congr_left
    intro d hdm
    have := hd d hdm
    simp only [Function.comp]
    rw [UInt8.toNat_ofNat']
    omega
  have hsz : (strOfNums (l.map (48 + ·))).size = l.length := by rw [← bytesOf_length, hb, List.length_map]
  have go : ∀ (d i : Nat), i + d = l.length → Ev (fun k => impl_numberOf.l0 k (strOfNums (l.map (48 + ·))) (val 0 (l.take i)) (l.length : Int) (i : Int)) (val 0 l) := by
    intro d
    induction d with
    | zero =>
      intro i hi
      refine ev_succ ?_
      simp only [impl_numberOf.l0]
      refine ev_neg (by omega) (ev_eq fun _ => ?_)
      rw [List.take_of_length_le (by omega)]
    | succ d ih =>
      intro i hi
      have hlt : i < l.length := by omega
      refine ev_succ ?_
      simp only [impl_numberOf.l0]
      have hx := hd l[i] (List.getElem_mem hlt)
      have hbt : bt (strOfNums (l.map (48 + ·))) (i : Int) = 48 + l[i] := by
        rw [bt_at' _ _ hb i (by rw [List.length_map]; exact hlt), List.getElem_map]
      have hv := val_small (l.take i) (by have := List.length_take_le i l; omega) (fun y hy => hd y (List.mem_of_mem_take hy))
      rw [hbt, wrap_nat (by omega), show (48 + l[i] - 48) % 256 = l[i] by omega, wrap_of (x := 10 * val 0 (l.take i)) (by omega) (by omega), wrap_of (by omega) (by omega)]
      refine ev_pos (by omega) (ev_pos (by omega) (ev_pos (by rw [hsz]; omega) ?_))
      have := ih (i + 1) (by omega)
      rw [List.take_succ_eq_append_getElem hlt, val_snoc] at this
      exact this
  unfold impl_numberOf.f
  rw [hsz]
  exact go l.length 0 (by omega)
theorem cs_len (n : Nat) : (cs (dI n) 10).length = (dI n).length := by
  have := cs_perm (dI n) 10
  have e : ((dI n).filter fun x => decide (0 ≤ x ∧ x < ((10 : Nat) : Int))) = dI n := List.filter_eq_self.mpr (fun x hx => by have := dI_range n x hx; simp; omega)
  rw [e] at this
  exact this.length_eq
theorem cs_range (n : Nat) : ∀ x ∈ cs (dI n) 10, 0 ≤ x ∧ x ≤ 9 := by
  intro x hx
  have := (cs_perm (dI n) 10).mem_iff.mp hx
  exact dI_range n x (List.mem_filter.mp this).1
theorem leNumber_eq (n : Int) : spec_leNumber.f n = some (decide (0 ≤ n ∧ n ≤ 1000000000000)) := by
  unfold spec_leNumber.f; rw [l1In_eq]; rfl
theorem isLeast_eq (n : Int) : impl_isLeast.f n = some (decide (0 ≤ n ∧ n ≤ 1000000000000)) := by
  unfold impl_isLeast.f; rw [within_eq]; rfl

def ix : List Int → Int → Int
  | [], _ => -1
  | x :: l, i => if x = 0 then ix l (i + 1) else i
theorem idx_map : ∀ (l : List Int) (i : Int), impl_LeastSameDigits.idx (l.map (48 + ·)) i = ix l i
  | [], _ => rfl
  | x :: l, i => by
    simp only [List.map_cons, impl_LeastSameDigits.idx, ix]
    by_cases h : x = 0
    · rw [if_pos h, if_pos (by omega), idx_map l]
    · rw [if_neg h, if_neg (by omega)]
theorem ix_drop (l : List Int) : ∀ (i : Nat), i ≤ l.length → (∀ p (h : p < l.length), p < i → l[p] = 0) → ix l 0 = ix (l.drop i) (i : Int)
  | 0, _, _ => rfl
  | i + 1, hi, hz => by
    rw [ix_drop l i (by omega) (fun p h hp => hz p h (by omega)), List.drop_eq_getElem_cons (by omega : i < l.length)]
    simp only [ix]
    rw [if_pos (hz i (by omega) (by omega))]
    rfl
def sw (l : List Int) : List Int := if 0 < ix l 0 then (l.set 0 (rd l (ix l 0))).set (ix l 0).toNat (rd l 0) else l
theorem sw_at (l : List Int) (i : Nat) (h : i < l.length) (hz : ∀ p (h : p < l.length), p < i → l[p] = 0) (hn : l[i] ≠ 0 ∨ i + 1 = l.length) : (l.set i (rd l 0)).set 0 (rd l (i : Int)) = sw l := by
  have e := ix_drop l i (by omega) hz
  rw [List.drop_eq_getElem_cons h] at e
  simp only [ix] at e
  have e0 : rd l 0 = l[0]'(by omega) := rd_at l 0 (by omega)
  unfold sw
  by_cases hx : l[i] = 0
  · have hl : i + 1 = l.length := by rcases hn with q | q; exact absurd hx q; exact q
    rw [if_pos hx, List.drop_eq_nil_of_le (by omega)] at e
    have e2 : ix l 0 = -1 := e
    rw [e2]
    rw [if_neg (by decide), rd_at l i h, e0, hx]
    have h0 : l[0]'(by omega) = 0 := by
      by_cases hi : i = 0
      · subst hi; exact hx
      · exact hz 0 (by omega) (by omega)
    rw [h0]
    apply List.ext_getElem
    · simp
    · intro p h1 h2
      rw [List.getElem_set, List.getElem_set]
      by_cases hp0 : 0 = p
      · subst hp0; simp [h0]
      · by_cases hpi : i = p
        · subst hpi; simp [hx]
        · simp [hp0, hpi]
  · rw [if_neg hx] at e
    rw [e]
    by_cases hi : 0 < (i : Int)
    · rw [if_pos hi, Int.toNat_natCast]
      exact List.set_comm _ _ (by omega)
    · obtain rfl : i = 0 := by omega
      rw [if_neg hi, rd_at l 0 h, e0] <;> simp
theorem sw_len (l : List Int) : (sw l).length = l.length := by unfold sw; split <;> simp
theorem sw_range (l : List Int) (hl : ∀ x ∈ l, 0 ≤ x ∧ x ≤ 9) : ∀ x ∈ sw l, 0 ≤ x ∧ x ≤ 9 := by
  have hr : ∀ i : Int, 0 ≤ rd l i ∧ rd l i ≤ 9 := by
    intro i
    unfold rd
    by_cases h : i.toNat < l.length
    · rw [List.getD_eq_getElem?_getD, List.getElem?_eq_getElem h]; exact hl _ (List.getElem_mem h)
    · rw [List.getD_eq_getElem?_getD, List.getElem?_eq_none (by omega)]; simp
  intro x hx
  unfold sw at hx
  split at hx
  · rcases List.mem_or_eq_of_mem_set hx with h | h
    · rcases List.mem_or_eq_of_mem_set h with h | h
      · exact hl x h
      · rw [h]; exact hr _
    · rw [h]; exact hr _
  · exact hl x hx
theorem rd_map (l : List Int) (i : Int) (h : i.toNat < l.length) : rd (l.map (48 + ·)) i = 48 + rd l i := by
  unfold rd
  rw [List.getD_eq_getElem?_getD, List.getD_eq_getElem?_getD, List.getElem?_map, List.getElem?_eq_getElem h]; rfl
theorem swap_map (l : List Int) : impl_LeastSameDigits.swap (l.map (48 + ·)) = (sw l).map (48 + ·) := by
  unfold impl_LeastSameDigits.swap sw
  rw [idx_map]
  by_cases h : 0 < ix l 0
  · rw [if_pos h, if_pos h]
    have hl : ix l 0 = -1 ∨ (0 ≤ ix l 0 ∧ ix l 0 < 0 + l.length) := by
      have := impl_LeastSameDigits.idx_lt (l.map (48 + ·)) 0 (Int.le_refl 0)
      rw [idx_map, List.length_map] at this
      exact this
    rw [rd_map l _ (by omega), rd_map l 0 (by simp; omega), List.map_set, List.map_set]
  · rw [if_neg h, if_neg h]
theorem leOf_ev (l : List Int) (h : l.length ≤ 13) (hd : ∀ d ∈ l, 0 ≤ d ∧ d ≤ 9) : Ev (fun k => spec_leOf.f k l) (val 0 l) := by
  have go : ∀ (d i : Nat), i + d = l.length → Ev (fun k => spec_leOf.l0 k (val 0 (l.take i)) l (l.length : Int) (i : Int)) (val 0 l) := by
    intro d
    induction d with
    | zero =>
      intro i hi
      refine ev_succ ?_
      simp only [spec_leOf.l0]
      refine ev_neg (by omega) (ev_eq fun _ => ?_)
      rw [List.take_of_length_le (by omega)]
    | succ d ih =>
      intro i hi
      have hlt : i < l.length := by omega
      refine ev_succ ?_
      simp only [spec_leOf.l0]
      have hx := hd l[i] (List.getElem_mem hlt)
      have hv := val_small (l.take i) (by have := List.length_take_le i l; omega) (fun y hy => hd y (List.mem_of_mem_take hy))
      rw [rd_at _ i hlt, wrap_nat (by omega), wrap_of (x := 10 * val 0 (l.take i)) (by omega) (by omega), wrap_of (by omega) (by omega)]
      refine ev_pos (by omega) (ev_pos (by omega) (ev_pos (by omega) ?_))
      have := ih (i + 1) (by omega)
      rw [List.take_succ_eq_append_getElem hlt, val_snoc] at this
      exact this
  unfold spec_leOf.f
  exact go l.length 0 (by omega)
theorem specLeast_loop (l : List Int) (hl : l.length ≤ 13) (hp : 0 < l.length) (hd : ∀ d ∈ l, 0 ≤ d ∧ d ≤ 9) : ∀ (d i : Nat), i + d + 1 = l.length → (∀ p (h : p < l.length), p < i → l[p] = 0) → Ev (fun k => spec_LeastSameDigits.l0 k l (i : Int)) (val 0 (sw l), true) := by
  have hr : Ev (fun k => spec_leOf.f k (sw l)) (val 0 (sw l)) := leOf_ev _ (by rw [sw_len]; exact hl) (sw_range l hd)
  intro d
  induction d with
  | zero =>
    intro i hi hz
    refine ev_succ ?_
    simp only [spec_LeastSameDigits.l0]
    rw [wrap_of (by omega) (by omega)]
    refine ev_neg (by omega) (ev_pos (by omega) (ev_pos (by omega) (ev_pos (by omega) ?_)))
    rw [Int.toNat_natCast, Int.toNat_zero, sw_at l i (by omega) hz (Or.inr (by omega))]
    exact Ev.bind hr (ev_eq fun _ => rfl)
  | succ d ih =>
    intro i hi hz
    refine ev_succ ?_
    simp only [spec_LeastSameDigits.l0]
    rw [wrap_of (x := (l.length : Int) - 1) (by omega) (by omega)]
    refine ev_pos (by omega) (ev_pos (by omega) (ev_pos (by omega) ?_))
    by_cases hx : rd l (i : Int) = 0
    · refine ev_pos hx ?_
      rw [wrap_nat (by omega)]
      refine ih (i + 1) (by omega) (fun p h hp => ?_)
      by_cases e : p = i
      · subst e; rw [rd_at l p h] at hx; exact hx
      · exact hz p h (by omega)
    · refine ev_neg hx (ev_pos (by omega) ?_)
      rw [Int.toNat_natCast, Int.toNat_zero, sw_at l i (by omega) hz (Or.inl (by rw [← rd_at l i (by omega)]; exact hx))]
      exact Ev.bind hr (ev_eq fun _ => rfl)
theorem both (n : Nat) (h : n ≤ 1000000000000) : Ev (fun k => spec_LeastSameDigits.f k (n : Int)) (val 0 (sw (cs (dI n) 10)), true) ∧ Ev (fun k => impl_LeastSameDigits.f k (n : Int)) (val 0 (sw (cs (dI n) 10)), true) := by
  have hl : (cs (dI n) 10).length ≤ 13 := by rw [cs_len, dI_len]; exact dgs_len 12 n (by omega)
  have hp : 0 < (cs (dI n) 10).length := by rw [cs_len, dI_len]; exact dgs_pos n
  have hok : decide (0 ≤ (n : Int) ∧ (n : Int) ≤ 1000000000000) = true := decide_eq_true (by omega)
  refine ⟨?_, ?_⟩
  · unfold spec_LeastSameDigits.f
    refine ev_bind (leNumber_eq _) (ev_pos hok (Ev.bind (leSorted_ev n h) ?_))
    exact specLeast_loop _ hl hp (cs_range n) ((cs (dI n) 10).length - 1) 0 (by omega) (fun p h hp => by omega)
  · unfold impl_LeastSameDigits.f
    refine ev_bind (isLeast_eq _) (ev_pos hok (ev_bind (itoa_ev n (by omega)) (ev_pos (by rw [itoa_size]; have := dgs_len 12 n (by omega); omega) ?_)))
    rw [bytesOf_itoa, sorted_map _ (dI_range n), swap_map]
    exact Ev.bind (numberOf_ev _ (by rw [sw_len]; exact hl) (sw_range _ (cs_range n))) (ev_eq fun _ => rfl)

theorem FnExactLeastSameDigits : laws_FnExactLeastSameDigits.Pure := by
  intro n _
  refine Ev.rounds ?_
  unfold laws_FnExactLeastSameDigits.f
  by_cases h : 0 ≤ n ∧ n ≤ 1000000000000
  · obtain ⟨m, rfl⟩ : ∃ m : Nat, n = (m : Int) := ⟨n.toNat, by omega⟩
    obtain ⟨h1, h2⟩ := both m (by omega)
    exact Ev.bind h1 (Ev.bind h2 (ev_pos rfl (ev_neg (by simp) (ev_eq fun _ => rfl))))
  · have hno : ¬ decide (0 ≤ n ∧ n ≤ 1000000000000) = true := by rw [decide_eq_false h]; decide
    have h1 : Ev (fun k => spec_LeastSameDigits.f k n) (0, false) := by
      unfold spec_LeastSameDigits.f
      exact ev_bind (leNumber_eq _) (ev_neg hno (ev_eq fun _ => rfl))
    have h2 : Ev (fun k => impl_LeastSameDigits.f k n) (0, false) := by
      unfold impl_LeastSameDigits.f
      exact ev_bind (isLeast_eq _) (ev_neg hno (ev_eq fun _ => rfl))
    exact Ev.bind h1 (Ev.bind h2 (ev_pos rfl (ev_neg (by simp) (ev_eq fun _ => rfl))))

end Go.Proofs.YtjhmocngcnnfdaaDoor.Pure

/- LeastOfDigits: numbers with the same digits come one behind the other, products are those of digits, multiples are written as told and are multiples, and ones leave the told rests (numbers, lists and texts alone). -/
import Derived.Test.YtjnfaidngaobmaaGreatDoorPureFnLeastOfDigitsK
import Derived.Test.YtjnfaidngaobmaaGreatDoorPFnLeastOfDigitsx12
namespace Go.Proofs.YtjnfaidngaobmaaGreatDoor.Pure
open Go.RowKit Go.Proofs.YtjnfaidngaobmaaGreatDoor.PFnLeastOfDigits Go.Proofs.YtjnfaidngaobmaaGreatDoorW.PrintWords Go.Proofs.YtjnfaidngaobmaaGreatDoorW.PrintLast
set_option linter.unusedVariables false
set_option linter.unusedSimpArgs false

/-! ### the digits of a number, sorted -/
def dgs (n : Nat) : List Nat := if h : n < 10 then [n] else dgs (n / 10) ++ [n % 10]
termination_by n
decreasing_by omega
theorem dgs_small {n : Nat} (h : n < 10) : dgs n = [n] := by rw [dgs, dif_pos h]
theorem dgs_big {n : Nat} (h : ¬ n < 10) : dgs n = dgs (n / 10) ++ [n % 10] := by rw [dgs, dif_neg h]
theorem dgs_lt (n : Nat) : ∀ d ∈ dgs n, d < 10 := by
  induction n using Nat.strongRecOn with
  | _ n ih =>
    by_cases h : n < 10
    · rw [dgs_small h]; intro d hd; simp at hd; omega
    · rw [dgs_big h]
      intro d hd
      rcases List.mem_append.mp hd with hd | hd
      · exact ih (n / 10) (by omega) d hd
      · simp at hd; omega
theorem dgs_len (k : Nat) : ∀ n, n < 10 ^ (k + 1) → (dgs n).length ≤ k + 1 := by
  induction k with
  | zero => intro n h; rw [dgs_small (by simpa using h)]; simp
  | succ k ih =>
    intro n h
    by_cases h1 : n < 10
    · rw [dgs_small h1]; simp
    · rw [dgs_big h1, List.length_append]
      have := ih (n / 10) (by rw [Nat.pow_succ] at h; omega)
      simp only [List.length_singleton]; omega
theorem dgs_pos (n : Nat) : 0 < (dgs n).length := by
  by_cases h : n < 10
  · rw [dgs_small h]; simp
  · rw [dgs_big h, List.length_append]; simp
theorem dec_dgs (n : Nat) : Lib.decDigits n = (dgs n).map fun d => UInt8.ofNat (48 + d) := by
  induction n using Nat.strongRecOn with
  | _ n ih =>
    by_cases h : n < 10
    · rw [dgs_small h, Lib.decDigits, dif_pos h]; rfl
    · rw [dgs_big h, Lib.decDigits, dif_neg h, ih (n / 10) (by omega), List.map_append]; rfl
def dI (n : Nat) : List Int := (dgs n).map fun d : Nat => (d : Int)
theorem dI_len (n : Nat) : (dI n).length = (dgs n).length := by simp [dI]
theorem dI_range (n : Nat) : ∀ d ∈ dI n, 0 ≤ d ∧ d ≤ 9 := by
  intro d hd
  obtain ⟨e, he, rfl⟩ := List.mem_map.mp hd
  have := dgs_lt n e he
  omega
theorem ofNat_nat {d : Nat} (h : d < 10) : ((UInt8.ofNat (48 + d)).toNat : Int) = 48 + d := by rw [UInt8.toNat_ofNat']; omega
theorem bytesOf_itoa (n : Nat) : bytesOf ⟨(Lib.itoa (n : Int)).toArray⟩ = (dI n).map (48 + ·) := by
  unfold bytesOf Lib.itoa
  rw [if_neg (by omega), Int.toNat_natCast, dec_dgs]
  simp only [List.map_map, dI]
  apply List.map_congr_left
  intro d hd
  exact ofNat_nat (dgs_lt n d hd)
theorem itoa_size (n : Nat) : (⟨(Lib.itoa (n : Int)).toArray⟩ : ByteArray).size = (dgs n).length := by
  show (Lib.itoa (n : Int)).toArray.size = _
  unfold Lib.itoa
  rw [if_neg (by omega), Int.toNat_natCast, dec_dgs]
  simp
theorem itoa_ev (n : Nat) (h : n ≤ 9223372036854775807) : strconv_Itoa.f (n : Int) = some ⟨(Lib.itoa (n : Int)).toArray⟩ := by
  unfold strconv_Itoa.f
  rw [if_pos (by omega), if_pos (by omega)]
theorem leList_ev (n : Nat) (h : n ≤ 1000000000000) : Ev (fun k => spec_leList.f k (n : Int)) (dI n) := by
  have go : ∀ (m : Nat) (acc : List Int), m ≤ 1000000000000 → acc.length + m ≤ 2000000000000 → Ev (fun k => spec_leList.l0 k (m : Int) acc) ((if m = 0 then [] else dI m) ++ acc) := by
    intro m
    induction m using Nat.strongRecOn with
    | _ m ih =>
      intro acc hm ha
      refine ev_succ ?_
      simp only [spec_leList.l0]
      by_cases h0 : m = 0
      · subst h0
        exact ev_neg (by omega) (ev_eq fun _ => by simp)
      · refine ev_pos (by omega) ?_
        simp only [Option.bind_some, List.length_singleton]
        refine ev_pos (by omega) ?_
        rw [Int.tdiv_eq_ediv_of_nonneg (by omega), Int.tmod_eq_emod_of_nonneg (by omega), wrap_of (by omega) (by omega), show (m : Int) / 10 = ((m / 10 : Nat) : Int) by omega, show (m : Int) % 10 = ((m % 10 : Nat) : Int) by omega]
        have := ih (m / 10) (by omega) ([((m % 10 : Nat) : Int)] ++ acc) (by omega) (by simp only [List.length_append, List.length_singleton]; omega)
        have e : (if m / 10 = 0 then [] else dI (m / 10)) ++ ([((m % 10 : Nat) : Int)] ++ acc) = (if m = 0 then [] else dI m) ++ acc := by
          rw [if_neg h0, ← List.append_assoc]
          congr 1
          unfold dI
          by_cases h1 : m < 10
          · rw [if_pos (by omega), dgs_small h1, show m % 10 = m by omega]; rfl
          · rw [if_neg (by omega), dgs_big h1, List.map_append]; rfl
        rw [e] at this
        exact this
  unfold spec_leList.f
  rw [Int.tdiv_eq_ediv_of_nonneg (by omega), Int.tmod_eq_emod_of_nonneg (by omega), wrap_of (by omega) (by omega), show (n : Int) / 10 = ((n / 10 : Nat) : Int) by omega, show (n : Int) % 10 = ((n % 10 : Nat) : Int) by omega]
  have := go (n / 10) [((n % 10 : Nat) : Int)] (by omega) (by simp only [List.length_singleton]; omega)
  have e : (if n / 10 = 0 then [] else dI (n / 10)) ++ [((n % 10 : Nat) : Int)] = dI n := by
    unfold dI
    by_cases h1 : n < 10
    · rw [if_pos (by omega), dgs_small h1, show n % 10 = n by omega]; rfl
    · rw [if_neg (by omega), dgs_big h1, List.map_append]; rfl
  rw [e] at this
  exact this
/-- Digits put in order by counting. -/
def cs (l : List Int) : Nat → List Int
  | 0 => []
  | d + 1 => cs l d ++ l.filter (· == (d : Int))
theorem rd_at (l : List Int) (i : Nat) (h : i < l.length) : rd l (i : Int) = l[i] := by
  unfold rd
  rw [Int.toNat_natCast, List.getD_eq_getElem?_getD, List.getElem?_eq_getElem h]; rfl
theorem leSorted_ev (n : Nat) (h : n ≤ 1000000000000) : Ev (fun k => spec_leSorted.f k (n : Int)) (cs (dI n) 10) := by
  have hl : (dI n).length ≤ 13 := by rw [dI_len]; exact dgs_len 12 n (by omega)
  have hcs : ∀ d, (cs (dI n) d).length ≤ 13 * d := by
    intro d
    induction d with
    | zero => simp [cs]
    | succ d ih => unfold cs; rw [List.length_append]; have := List.length_filter_le (· == (d : Int)) (dI n); omega
  have inner : ∀ (R : List Int) (dd : Nat) (out : List Int) (_ : dd ≤ 9) (_ : out.length ≤ 200) (_ : Ev (fun k => spec_leSorted.l0 k (out ++ (dI n).filter (· == (dd : Int))) (dI n) (wrap64 ((dd : Int) + 1))) R) (d i : Nat), i + d = (dI n).length →
      Ev (fun k => spec_leSorted.l1 k (out ++ ((dI n).take i).filter (· == (dd : Int))) (dI n) (dd : Int) (dI n) ((dI n).length : Int) (i : Int)) R := by
    intro R dd out hdd hout hR d
    induction d with
    | zero =>
      intro i hi
      refine ev_succ ?_
      simp only [spec_leSorted.l1]
      refine ev_neg (by omega) ?_
      rw [List.take_of_length_le (by omega)]
      exact hR
    | succ d ih =>
      intro i hi
      have hlt : i < (dI n).length := by omega
      refine ev_succ ?_
      simp only [spec_leSorted.l1]
      rw [rd_at _ i hlt, wrap_nat (by omega)]
      refine ev_pos (by omega) (ev_pos (by omega) (ev_pos (by omega) ?_))
      have ht : ((dI n).take (i + 1)).filter (· == (dd : Int)) = ((dI n).take i).filter (· == (dd : Int)) ++ (if (dI n)[i] = (dd : Int) then [(dd : Int)] else []) := by
        rw [List.take_succ_eq_append_getElem hlt, List.filter_append]
        congr 1
        by_cases e : (dI n)[i] = (dd : Int)
        · rw [if_pos e, List.filter_cons_of_pos (by simpa using e), e]; rfl
        · rw [if_neg e, List.filter_cons_of_neg (by simpa using e)]; rfl
      have := ih (i + 1) (by omega)
      rw [ht] at this
      by_cases e : (dI n)[i] = (dd : Int)
      · rw [if_pos e, ← List.append_assoc] at this
        refine ev_pos e (ev_pos ?_ this)
        rw [List.length_append]
        have := List.length_filter_le (· == (dd : Int)) ((dI n).take i)
        have h2 := List.length_take_le i (dI n)
        omega
      · rw [if_neg e, List.append_nil] at this
        exact ev_neg e this
  have outer : ∀ (d c : Nat), c + d = 10 → Ev (fun k => spec_leSorted.l0 k (cs (dI n) c) (dI n) (c : Int)) (cs (dI n) 10) := by
    intro d
    induction d with
    | zero =>
      intro c hc
      obtain rfl : c = 10 := by omega
      refine ev_succ ?_
      simp only [spec_leSorted.l0]
      exact ev_neg (by omega) (ev_eq fun _ => rfl)
    | succ d ih =>
      intro c hc
      refine ev_succ ?_
      simp only [spec_leSorted.l0]
      refine ev_pos (by omega) ?_
      have h1 := ih (c + 1) (by omega)
      have h2 := inner (cs (dI n) 10) c (cs (dI n) c) (by omega) (by have := hcs c; omega) (by rw [wrap_nat (by omega)]; exact h1) (dI n).length 0 (by omega)
      simpa using h2
  unfold spec_leSorted.f
  refine Ev.bind (leList_ev n h) ?_
  exact outer 10 0 rfl
/-- What is sorted and has the same elements is the same. -/
theorem cs_perm (l : List Int) : ∀ (d : Nat), (cs l d).Perm (l.filter fun x => decide (0 ≤ x ∧ x < (d : Int)))
  | 0 => by
    have : l.filter (fun x => decide (0 ≤ x ∧ x < ((0 : Nat) : Int))) = [] := List.filter_eq_nil_iff.mpr (fun x _ => by rw [decide_eq_true_eq]; omega)
    rw [this]; exact List.Perm.refl _
  | d + 1 => by
    unfold cs
    refine ((cs_perm l d).append_right _).trans ?_
    have h1 := List.filter_append_perm (fun x => decide (0 ≤ x ∧ x < (d : Int))) (l.filter fun x => decide (0 ≤ x ∧ x < ((d + 1 : Nat) : Int)))
    have e1 : (l.filter fun x => decide (0 ≤ x ∧ x < ((d + 1 : Nat) : Int))).filter (fun x => decide (0 ≤ x ∧ x < (d : Int))) = l.filter fun x => decide (0 ≤ x ∧ x < (d : Int)) := by
      rw [List.filter_filter]
      apply List.filter_congr
      intro x _
      rw [Bool.eq_iff_iff]; simp only [Bool.and_eq_true, decide_eq_true_eq]; omega
    have e2 : (l.filter fun x => decide (0 ≤ x ∧ x < ((d + 1 : Nat) : Int))).filter (fun x => !decide (0 ≤ x ∧ x < (d : Int))) = l.filter (· == (d : Int)) := by
      rw [List.filter_filter]
      apply List.filter_congr
      intro x _
      rw [Bool.eq_iff_iff]; simp only [Bool.and_eq_true, Bool.not_eq_true', decide_eq_true_eq, decide_eq_false_iff_not, beq_iff_eq]; omega
    rw [e1, e2] at h1
    exact h1
theorem cs_sorted (l : List Int) : ∀ (d : Nat), (cs l d).Pairwise (· ≤ ·) ∧ ∀ x ∈ cs l d, x < (d : Int)
  | 0 => ⟨List.Pairwise.nil, fun x hx => by simp [cs] at hx⟩
  | d + 1 => by
    obtain ⟨h1, h2⟩ := cs_sorted l d
    unfold cs
    refine ⟨List.pairwise_append.mpr ⟨h1, ?_, fun a ha b hb => ?_⟩, fun x hx => ?_⟩
    · refine List.Pairwise.imp_of_mem (R := fun _ _ => True) (fun {a b} ha hb _ => ?_) (List.pairwise_of_forall (fun _ _ => trivial))
      have := (List.mem_filter.mp ha).2; have := (List.mem_filter.mp hb).2
      simp at *; omega
    · have := h2 a ha; have := (List.mem_filter.mp hb).2
      simp at *; omega
    · rcases List.mem_append.mp hx with hx | hx
      · have := h2 x hx; omega
      · have := (List.mem_filter.mp hx).2; simp at this; omega
theorem sorted_map (l : List Int) (hl : ∀ x ∈ l, 0 ≤ x ∧ x ≤ 9) : SortB.sorted (l.map (48 + ·)) = (cs l 10).map (48 + ·) := by
  have hp : (cs l 10).Perm l := by
    have := cs_perm l 10
    have e : (l.filter fun x => decide (0 ≤ x ∧ x < ((10 : Nat) : Int))) = l := List.filter_eq_self.mpr (fun x hx => by have := hl x hx; simp; omega)
    rw [e] at this
    exact this
  have hs1 : (SortB.sorted (l.map (48 + ·))).Pairwise (· ≤ ·) := by
    have := List.pairwise_mergeSort (le := fun (x y : Int) => decide (x ≤ y)) (fun a b c h1 h2 => by simp at *; omega) (fun a b => by simp; omega) (l.map (48 + ·))
    exact this.imp (fun {a b} h => by simpa using h)
  have hs2 : ((cs l 10).map (48 + ·)).Pairwise (· ≤ ·) := List.pairwise_map.mpr ((cs_sorted l 10).1.imp (fun {a b} h => by omega))
  have hp2 : (SortB.sorted (l.map (48 + ·))).Perm ((cs l 10).map (48 + ·)) := (List.mergeSort_perm _ _).trans ((hp.map _).symm)
  exact hp2.eq_of_pairwise (fun a b _ _ h1 h2 => by omega) hs1 hs2
/-- The number that digits tell. -/
def val (a : Int) (l : List Int) : Int := l.foldl (fun a d => 10 * a + d) a
theorem val_range (k : Nat) : ∀ (l : List Int) (a : Int), l.length ≤ k → (∀ d ∈ l, 0 ≤ d ∧ d ≤ 9) → 0 ≤ a → 0 ≤ val a l ∧ val a l < (a + 1) * 10 ^ l.length
  | l, a, hk, hd, ha => by
    induction l generalizing a with
    | nil => simp [val]; omega
    | cons x l ih =>
      have h1 := hd x List.mem_cons_self
      have := ih (10 * a + x) (by simp at hk; omega) (fun d hd' => hd d (List.mem_cons_of_mem _ hd')) (by omega)
      refine ⟨this.1, Int.lt_of_lt_of_le this.2 ?_⟩
      rw [List.length_cons, Int.pow_succ, Int.mul_comm (10 ^ l.length) 10, ← Int.mul_assoc]
      exact Int.mul_le_mul_of_nonneg_right (by omega) (Int.pow_nonneg (by omega))
theorem pow13 (n : Nat) (h : n ≤ 13) : (10 : Int) ^ n ≤ 10000000000000 := by
  have : (10 : Int) ^ n = ((10 ^ n : Nat) : Int) := by simp
  rw [this]
  have := Nat.pow_le_pow_right (n := 10) (by decide) h
  omega
theorem val_snoc (a : Int) (l : List Int) (x : Int) : val a (l ++ [x]) = 10 * val a l + x := by unfold val; rw [List.foldl_append]; rfl
theorem val_small (l : List Int) (h : l.length ≤ 13) (hd : ∀ d ∈ l, 0 ≤ d ∧ d ≤ 9) : 0 ≤ val 0 l ∧ val 0 l < 10000000000000 := by
  have h1 := val_range 13 l 0 h hd (Int.le_refl 0)
  have h2 := pow13 l.length h
  omega
theorem bt_at' (s : ByteArray) (xs : List Int) (hs : bytesOf s = xs) (i : Nat) (hi : i < xs.length) : bt s (i : Int) = xs[i] := by
  rw [← rd_bytesOf, hs, rd_at _ i hi]
theorem numberOf_ev (l : List Int) (h : l.length ≤ 13) (hd : ∀ d ∈ l, 0 ≤ d ∧ d ≤ 9) : Ev (fun k => impl_numberOf.f k (strOfNums (l.map (48 + ·)))) (val 0 l) := by
  have hb : bytesOf (strOfNums (l.map (48 + ·))) = l.map (48 + ·) := by
    unfold bytesOf strOfNums
    simp only [List.map_map]
    apply List.map_congr_left
    intro d hdm
    have := hd d hdm
    simp only [Function.comp]
    rw [UInt8.toNat_ofNat']
    omega
  have hsz : (strOfNums (l.map (48 + ·))).size = l.length := by rw [← bytesOf_length, hb, List.length_map]
  have go : ∀ (d i : Nat), i + d = l.length → Ev (fun k => impl_numberOf.l0 k (strOfNums (l.map (48 + ·))) (val 0 (l.take i)) (l.length : Int) (i : Int)) (val 0 l) := by
    intro d
    induction d with
    | zero =>
      intro i hi
      refine ev_succ ?_
      simp only [impl_numberOf.l0]
      refine ev_neg (by omega) (ev_eq fun _ => ?_)
      rw [List.take_of_length_le (by omega)]
    | succ d ih =>
      intro i hi
      have hlt : i < l.length := by omega
      refine ev_succ ?_
      simp only [impl_numberOf.l0]
      have hx := hd l[i] (List.getElem_mem hlt)
      have hbt : bt (strOfNums (l.map (48 + ·))) (i : Int) = 48 + l[i] := by
        rw [bt_at' _ _ hb i (by rw [List.length_map]; exact hlt), List.getElem_map]
      have hv := val_small (l.take i) (by have := List.length_take_le i l; omega) (fun y hy => hd y (List.mem_of_mem_take hy))
      rw [hbt, wrap_nat (by omega), show (48 + l[i] - 48) % 256 = l[i] by omega, wrap_of (x := 10 * val 0 (l.take i)) (by omega) (by omega), wrap_of (by omega) (by omega)]
      refine ev_pos (by omega) (ev_pos (by omega) (ev_pos (by rw [hsz]; omega) ?_))
      have := ih (i + 1) (by omega)
      rw [List.take_succ_eq_append_getElem hlt, val_snoc] at this
      exact this
  unfold impl_numberOf.f
  rw [hsz]
  exact go l.length 0 (by omega)
theorem cs_len (n : Nat) : (cs (dI n) 10).length = (dI n).length := by
  have := cs_perm (dI n) 10
  have e : ((dI n).filter fun x => decide (0 ≤ x ∧ x < ((10 : Nat) : Int))) = dI n := List.filter_eq_self.mpr (fun x hx => by have := dI_range n x hx; simp; omega)
  rw [e] at this
  exact this.length_eq
theorem cs_range (n : Nat) : ∀ x ∈ cs (dI n) 10, 0 ≤ x ∧ x ≤ 9 := by
  intro x hx
  have := (cs_perm (dI n) 10).mem_iff.mp hx
  exact dI_range n x (List.mem_filter.mp this).1
theorem leNumber_eq (n : Int) : spec_leNumber.f n = some (decide (0 ≤ n ∧ n ≤ 1000000000000)) := by
  unfold spec_leNumber.f; rw [l1In_eq]; rfl
theorem isLeast_eq (n : Int) : impl_isLeast.f n = some (decide (0 ≤ n ∧ n ≤ 1000000000000)) := by
  unfold impl_isLeast.f; rw [within_eq]; rfl

/-! ### the least number with the same digits (out of pure/FnExactLeastSameDigits) -/
def ix : List Int → Int → Int
  | [], _ => -1
  | x :: l, i => if x = 0 then ix l (i + 1) else i
theorem idx_map : ∀ (l : List Int) (i : Int), impl_LeastSameDigits.idx (l.map (48 + ·)) i = ix l i
  | [], _ => rfl
  | x :: l, i => by
    simp only [List.map_cons, impl_LeastSameDigits.idx, ix]
    by_cases h : x = 0
    · rw [if_pos h, if_pos (by omega), idx_map l]
    · rw [if_neg h, if_neg (by omega)]
theorem ix_drop (l : List Int) : ∀ (i : Nat), i ≤ l.length → (∀ p (h : p < l.length), p < i → l[p] = 0) → ix l 0 = ix (l.drop i) (i : Int)
  | 0, _, _ => rfl
  | i + 1, hi, hz => by
    rw [ix_drop l i (by omega) (fun p h hp => hz p h (by omega)), List.drop_eq_getElem_cons (by omega : i < l.length)]
    simp only [ix]
    rw [if_pos (hz i (by omega) (by omega))]
    rfl
def sw (l : List Int) : List Int := if 0 < ix l 0 then (l.set 0 (rd l (ix l 0))).set (ix l 0).toNat (rd l 0) else l
theorem sw_at (l : List Int) (i : Nat) (h : i < l.length) (hz : ∀ p (h : p < l.length), p < i → l[p] = 0) (hn : l[i] ≠ 0 ∨ i + 1 = l.length) : (l.set i (rd l 0)).set 0 (rd l (i : Int)) = sw l := by
  have e := ix_drop l i (by omega) hz
  rw [List.drop_eq_getElem_cons h] at e
  simp only [ix] at e
  have e0 : rd l 0 = l[0]'(by omega) := rd_at l 0 (by omega)
  unfold sw
  by_cases hx : l[i] = 0
  · have hl : i + 1 = l.length := by rcases hn with q | q; exact absurd hx q; exact q
    rw [if_pos hx, List.drop_eq_nil_of_le (by omega)] at e
    have e2 : ix l 0 = -1 := e
    rw [e2]
    rw [if_neg (by decide), rd_at l i h, e0, hx]
    have h0 : l[0]'(by omega) = 0 := by
      by_cases hi : i = 0
      · subst hi; exact hx
      · exact hz 0 (by omega) (by omega)
    rw [h0]
    apply List.ext_getElem
    · simp
    · intro p h1 h2
      rw [List.getElem_set, List.getElem_set]
      by_cases hp0 : 0 = p
      · subst hp0; simp [h0]
      · by_cases hpi : i = p
        · subst hpi; simp [hx]
        · simp [hp0, hpi]
  · rw [if_neg hx] at e
    rw [e]
    by_cases hi : 0 < (i : Int)
    · rw [if_pos hi, Int.toNat_natCast]
      exact List.set_comm _ _ (by omega)
    · obtain rfl : i = 0 := by omega
      rw [if_neg hi, rd_at l 0 h, e0] <;> simp
theorem sw_len (l : List Int) : (sw l).length = l.length := by unfold sw; split <;> simp
theorem sw_range (l : List Int) (hl : ∀ x ∈ l, 0 ≤ x ∧ x ≤ 9) : ∀ x ∈ sw l, 0 ≤ x ∧ x ≤ 9 := by
  have hr : ∀ i : Int, 0 ≤ rd l i ∧ rd l i ≤ 9 := by
    intro i
    unfold rd
    by_cases h : i.toNat < l.length
    · rw [List.getD_eq_getElem?_getD, List.getElem?_eq_getElem h]; exact hl _ (List.getElem_mem h)
    · rw [List.getD_eq_getElem?_getD, List.getElem?_eq_none (by omega)]; simp
  intro x hx
  unfold sw at hx
  split at hx
  · rcases List.mem_or_eq_of_mem_set hx with h | h
    · rcases List.mem_or_eq_of_mem_set h with h | h
      · exact hl x h
      · rw [h]; exact hr _
    · rw [h]; exact hr _
  · exact hl x hx
theorem rd_map (l : List Int) (i : Int) (h : i.toNat < l.length) : rd (l.map (48 + ·)) i = 48 + rd l i := by
  unfold rd
  rw [List.getD_eq_getElem?_getD, List.getD_eq_getElem?_getD, List.getElem?_map, List.getElem?_eq_getElem h]; rfl
theorem swap_map (l : List Int) : impl_LeastSameDigits.swap (l.map (48 + ·)) = (sw l).map (48 + ·) := by
  unfold impl_LeastSameDigits.swap sw
  rw [idx_map]
  by_cases h : 0 < ix l 0
  · rw [if_pos h, if_pos h]
    have hl : ix l 0 = -1 ∨ (0 ≤ ix l 0 ∧ ix l 0 < 0 + l.length) := by
      have := impl_LeastSameDigits.idx_lt (l.map (48 + ·)) 0 (Int.le_refl 0)
      rw [idx_map, List.length_map] at this
      exact this
    rw [rd_map l _ (by omega), rd_map l 0 (by simp; omega), List.map_set, List.map_set]
  · rw [if_neg h, if_neg h]
theorem leOf_ev (l : List Int) (h : l.length ≤ 13) (hd : ∀ d ∈ l, 0 ≤ d ∧ d ≤ 9) : Ev (fun k => spec_leOf.f k l) (val 0 l) := by
  have go : ∀ (d i : Nat), i + d = l.length → Ev (fun k => spec_leOf.l0 k (val 0 (l.take i)) l (l.length : Int) (i : Int)) (val 0 l) := by
    intro d
    induction d with
    | zero =>
      intro i hi
      refine ev_succ ?_
      simp only [spec_leOf.l0]
      refine ev_neg (by omega) (ev_eq fun _ => ?_)
      rw [List.take_of_length_le (by omega)]
    | succ d ih =>
      intro i hi
      have hlt : i < l.length := by omega
      refine ev_succ ?_
      simp only [spec_leOf.l0]
      have hx := hd l[i] (List.getElem_mem hlt)
      have hv := val_small (l.take i) (by have := List.length_take_le i l; omega) (fun y hy => hd y (List.mem_of_mem_take hy))
      rw [rd_at _ i hlt, wrap_nat (by omega), wrap_of (x := 10 * val 0 (l.take i)) (by omega) (by omega), wrap_of (by omega) (by omega)]
      refine ev_pos (by omega) (ev_pos (by omega) (ev_pos (by omega) ?_))
      have := ih (i + 1) (by omega)
      rw [List.take_succ_eq_append_getElem hlt, val_snoc] at this
      exact this
  unfold spec_leOf.f
  exact go l.length 0 (by omega)
theorem specLeast_loop (l : List Int) (hl : l.length ≤ 13) (hp : 0 < l.length) (hd : ∀ d ∈ l, 0 ≤ d ∧ d ≤ 9) : ∀ (d i : Nat), i + d + 1 = l.length → (∀ p (h : p < l.length), p < i → l[p] = 0) → Ev (fun k => spec_LeastSameDigits.l0 k l (i : Int)) (val 0 (sw l), true) := by
  have hr : Ev (fun k => spec_leOf.f k (sw l)) (val 0 (sw l)) := leOf_ev _ (by rw [sw_len]; exact hl) (sw_range l hd)
  intro d
  induction d with
  | zero =>
    intro i hi hz
    refine ev_succ ?_
    simp only [spec_LeastSameDigits.l0]
    rw [wrap_of (by omega) (by omega)]
    refine ev_neg (by omega) (ev_pos (by omega) (ev_pos (by omega) (ev_pos (by omega) ?_)))
    rw [Int.toNat_natCast, Int.toNat_zero, sw_at l i (by omega) hz (Or.inr (by omega))]
    exact Ev.bind hr (ev_eq fun _ => rfl)
  | succ d ih =>
    intro i hi hz
    refine ev_succ ?_
    simp only [spec_LeastSameDigits.l0]
    rw [wrap_of (x := (l.length : Int) - 1) (by omega) (by omega)]
    refine ev_pos (by omega) (ev_pos (by omega) (ev_pos (by omega) ?_))
    by_cases hx : rd l (i : Int) = 0
    · refine ev_pos hx ?_
      rw [wrap_nat (by omega)]
      refine ih (i + 1) (by omega) (fun p h hp => ?_)
      by_cases e : p = i
      · subst e; rw [rd_at l p h] at hx; exact hx
      · exact hz p h (by omega)
    · refine ev_neg hx (ev_pos (by omega) ?_)
      rw [Int.toNat_natCast, Int.toNat_zero, sw_at l i (by omega) hz (Or.inl (by rw [← rd_at l i (by omega)]; exact hx))]
      exact Ev.bind hr (ev_eq fun _ => rfl)
theorem bothL (n : Nat) (h : n ≤ 1000000000000) : Ev (fun k => spec_LeastSameDigits.f k (n : Int)) (val 0 (sw (cs (dI n) 10)), true) ∧ Ev (fun k => impl_LeastSameDigits.f k (n : Int)) (val 0 (sw (cs (dI n) 10)), true) := by
  have hl : (cs (dI n) 10).length ≤ 13 := by rw [cs_len, dI_len]; exact dgs_len 12 n (by omega)
  have hp : 0 < (cs (dI n) 10).length := by rw [cs_len, dI_len]; exact dgs_pos n
  have hok : decide (0 ≤ (n : Int) ∧ (n : Int) ≤ 1000000000000) = true := decide_eq_true (by omega)
  refine ⟨?_, ?_⟩
  · unfold spec_LeastSameDigits.f
    refine ev_bind (leNumber_eq _) (ev_pos hok (Ev.bind (leSorted_ev n h) ?_))
    exact specLeast_loop _ hl hp (cs_range n) ((cs (dI n) 10).length - 1) 0 (by omega) (fun p h hp => by omega)
  · unfold impl_LeastSameDigits.f
    refine ev_bind (isLeast_eq _) (ev_pos hok (ev_bind (itoa_ev n (by omega)) (ev_pos (by rw [itoa_size]; have := dgs_len 12 n (by omega); omega) ?_)))
    rw [bytesOf_itoa, sorted_map _ (dI_range n), swap_map]
    exact Ev.bind (numberOf_ev _ (by rw [sw_len]; exact hl) (sw_range _ (cs_range n))) (ev_eq fun _ => rfl)


/-! ### the greatest number with the same digits (out of pure/FnExactGreatestSameDigits) -/
theorem specGreatest_loop (l : List Int) (hl : l.length ≤ 13) (hd : ∀ d ∈ l, 0 ≤ d ∧ d ≤ 9) : ∀ (i : Nat), i ≤ l.length → Ev (fun k => spec_GreatestSameDigits.l0 k l (val 0 (l.reverse.take (l.length - i))) ((i : Int) - 1)) (val 0 l.reverse, true) := by
  intro i
  induction i with
  | zero =>
    intro _
    refine ev_succ ?_
    simp only [spec_GreatestSameDigits.l0]
    refine ev_neg (by omega) (ev_eq fun _ => ?_)
    rw [Nat.sub_zero, List.take_of_length_le (by simp)]
  | succ i ih =>
    intro hi
    have hlt : i < l.length := by omega
    refine ev_succ ?_
    simp only [spec_GreatestSameDigits.l0]
    have e1 : ((i + 1 : Nat) : Int) - 1 = (i : Int) := by omega
    rw [e1, rd_at _ i hlt]
    have hx := hd l[i] (List.getElem_mem hlt)
    have hv := val_small (l.reverse.take (l.length - (i + 1))) (by have := List.length_take_le (l.length - (i + 1)) l.reverse; omega) (fun y hy => hd y (List.mem_reverse.mp (List.mem_of_mem_take hy)))
    rw [wrap_of (x := 10 * val 0 (l.reverse.take (l.length - (i + 1)))) (by omega) (by omega), wrap_of (x := 10 * val 0 (l.reverse.take (l.length - (i + 1))) + l[i]) (by omega) (by omega), wrap_of (x := (i : Int) - 1) (by omega) (by omega)]
    refine ev_pos (by omega) (ev_pos (by omega) (ev_pos (by omega) ?_))
    have := ih (by omega)
    have e2 : l.reverse.take (l.length - i) = l.reverse.take (l.length - (i + 1)) ++ [l[i]] := by
      rw [show l.length - i = (l.length - (i + 1)) + 1 by omega, List.take_succ_eq_append_getElem (by simp; omega)]
      congr 1
      rw [List.getElem_reverse]
      congr 2
      omega
    rw [e2, val_snoc] at this
    exact this
theorem bothG (n : Nat) (h : n ≤ 1000000000000) : Ev (fun k => spec_GreatestSameDigits.f k (n : Int)) (val 0 (cs (dI n) 10).reverse, true) ∧ Ev (fun k => impl_GreatestSameDigits.f k (n : Int)) (val 0 (cs (dI n) 10).reverse, true) := by
  have hl : (cs (dI n) 10).length ≤ 13 := by rw [cs_len, dI_len]; exact dgs_len 12 n (by omega)
  have hok : decide (0 ≤ (n : Int) ∧ (n : Int) ≤ 1000000000000) = true := decide_eq_true (by omega)
  refine ⟨?_, ?_⟩
  · unfold spec_GreatestSameDigits.f
    refine ev_bind (leNumber_eq _) (ev_pos hok (Ev.bind (leSorted_ev n h) ?_))
    have := specGreatest_loop (cs (dI n) 10) hl (cs_range n) (cs (dI n) 10).length (Nat.le_refl _)
    rw [Nat.sub_self, List.take_zero] at this
    rw [wrap_of (by omega) (by omega)]
    exact this
  · unfold impl_GreatestSameDigits.f
    refine ev_bind (isLeast_eq _) (ev_pos hok (ev_bind (itoa_ev n (by omega)) (ev_pos (by rw [itoa_size]; have := dgs_len 12 n (by omega); omega) ?_)))
    rw [bytesOf_itoa, sorted_map _ (dI_range n), ← List.map_reverse]
    exact Ev.bind (numberOf_ev _ (by rw [List.length_reverse]; exact hl) (fun d hd => cs_range n d (List.mem_reverse.mp hd))) (ev_eq fun _ => rfl)


/-! ### the next order of digits: lists alone -/
def Rl (d : Bool) (a b : Int) : Prop := if d = true then b < a else a < b
theorem Rl_f (a b : Int) : Rl false a b ↔ a < b := by simp [Rl]
theorem Rl_t (a b : Int) : Rl true a b ↔ b < a := by simp [Rl]
theorem Rl_not (d : Bool) (a b : Int) : Rl (!d) a b ↔ Rl d b a := by cases d <;> simp [Rl]
theorem Rl_trans (d : Bool) {a b c : Int} (h1 : Rl d a b) (h2 : Rl d b c) : Rl d a c := by cases d <;> simp [Rl] at * <;> omega
theorem Rl_weak (d : Bool) {a b c : Int} (h1 : Rl d a b) (h2 : ¬ Rl d c b) : Rl d a c := by cases d <;> simp [Rl] at * <;> omega
theorem Rl_weak2 (d : Bool) {a b c : Int} (h1 : ¬ Rl d a c) (h2 : Rl d a b) : Rl d c b := by cases d <;> simp [Rl] at * <;> omega
theorem Rl_asym (d : Bool) {a b : Int} (h1 : Rl d a b) : ¬ Rl d b a := by cases d <;> simp [Rl] at * <;> omega
theorem Rl_nn (d : Bool) {a b c : Int} (h1 : ¬ Rl d a b) (h2 : ¬ Rl d b c) : ¬ Rl d a c := by cases d <;> simp [Rl] at * <;> omega
def Dn (d : Bool) (l : List Int) : Prop := l.Pairwise (fun a b => ¬ Rl d a b)
/-- t' is what comes behind t (before it, where d). -/
def Stp (d : Bool) (t t' : List Int) : Prop := ∃ A x C y E, t = A ++ x :: (C ++ y :: E) ∧ Dn d (C ++ y :: E) ∧ Rl d x y ∧ (∀ e ∈ E, ¬ Rl d x e) ∧ t' = A ++ y :: (E.reverse ++ x :: C.reverse)
theorem last_of (d : Bool) (x : Int) : ∀ B : List Int, (∀ e ∈ B, ¬ Rl d x e) ∨ ∃ C y E, B = C ++ y :: E ∧ Rl d x y ∧ ∀ e ∈ E, ¬ Rl d x e
  | [] => .inl (fun e h => by simp at h)
  | b :: B => by
    rcases last_of d x B with h | ⟨C, y, E, rfl, h1, h2⟩
    · by_cases c : Rl d x b
      · exact .inr ⟨[], b, B, rfl, c, h⟩
      · exact .inl (fun e he => by rcases List.mem_cons.mp he with rfl | he; exact c; exact h e he)
    · exact .inr ⟨b :: C, y, E, rfl, h1, h2⟩
theorem stp_or (d : Bool) : ∀ t : List Int, Dn d t ∨ ∃ t', Stp d t t'
  | [] => .inl List.Pairwise.nil
  | x :: t => by
    rcases stp_or d t with h | ⟨t', A, a, C, y, E, rfl, h1, h2, h3, rfl⟩
    · rcases last_of d x t with h' | ⟨C, y, E, rfl, h1, h2⟩
      · exact .inl (List.pairwise_cons.mpr ⟨h', h⟩)
      · exact .inr ⟨_, [], x, C, y, E, rfl, h, h1, h2, rfl⟩
    · exact .inr ⟨_, x :: A, a, C, y, E, rfl, h1, h2, h3, rfl⟩
theorem stp_perm {d : Bool} {t t' : List Int} (h : Stp d t t') : t'.Perm t := by
  obtain ⟨A, x, C, y, E, rfl, _, _, _, rfl⟩ := h
  refine List.Perm.append_left A ?_
  have h1 : (E.reverse ++ x :: C.reverse).Perm (x :: (C ++ E)) := by
    refine List.perm_middle.trans (List.Perm.cons x ?_)
    refine ((List.reverse_perm E).append (List.reverse_perm C)).trans ?_
    exact List.perm_append_comm
  refine (List.Perm.cons y h1).trans ?_
  refine (List.Perm.swap x y _).trans (List.Perm.cons x ?_)
  exact List.perm_middle.symm
theorem stp_back {d : Bool} {t t' : List Int} (h : Stp d t t') : Stp (!d) t' t := by
  obtain ⟨A, x, C, y, E, rfl, h1, h2, h3, rfl⟩ := h
  have hp := List.pairwise_append.mp h1
  have hq := List.pairwise_cons.mp hp.2.1
  refine ⟨A, y, E.reverse, x, C.reverse, rfl, ?_, (Rl_not d y x).mpr h2, ?_, by simp⟩
  · have hd : Dn d (C ++ x :: E) := by
      refine List.pairwise_append.mpr ⟨hp.1, List.pairwise_cons.mpr ⟨h3, hq.2⟩, ?_⟩
      intro a ha b hb
      rcases List.mem_cons.mp hb with rfl | hb
      · have := hp.2.2 a ha y List.mem_cons_self
        exact fun q => this (Rl_trans d q h2)
      · exact hp.2.2 a ha b (List.mem_cons_of_mem _ hb)
    have hr : E.reverse ++ x :: C.reverse = (C ++ x :: E).reverse := by simp
    rw [hr]
    unfold Dn at hd ⊢
    rw [List.pairwise_reverse]
    exact hd.imp (fun {a b} q r => q ((Rl_not d b a).mp r))
  · intro e he r
    have he := List.mem_reverse.mp he
    exact hp.2.2 e he y List.mem_cons_self ((Rl_not d y e).mp r)
theorem dn_right {d : Bool} {A B : List Int} (h : Dn d (A ++ B)) : Dn d B := (List.pairwise_append.mp h).2.1
theorem stp_uniq {d : Bool} {t t1 t2 : List Int} (h1 : Stp d t t1) (h2 : Stp d t t2) : t1 = t2 := by
  obtain ⟨A, x, C, y, E, rfl, a1, a2, a3, rfl⟩ := h1
  obtain ⟨A', x', C', y', E', e, b1, b2, b3, rfl⟩ := h2
  have key : ∀ {A x C y E A' x' C' y' E'} (_ : A ++ x :: (C ++ y :: E) = A' ++ x' :: (C' ++ y' :: E')) (_ : Dn d (C ++ y :: E)) (_ : Rl d x' y'), ¬ A.length < A'.length := by
    intro A x C y E A' x' C' y' E' e a1 b2 hlt
    rcases List.append_eq_append_iff.mp e with ⟨zs, h3, h4⟩ | ⟨zs, h3, h4⟩
    · cases zs with
      | nil => rw [h3] at hlt; simp at hlt
      | cons z zs =>
        rw [List.cons_append, List.cons.injEq] at h4
        obtain ⟨rfl, h4⟩ := h4
        rw [h4] at a1
        have := dn_right a1
        exact (List.pairwise_cons.mp this).1 y' (by simp) b2
    · rw [h3] at hlt; simp at hlt; omega
  have hA : A.length = A'.length := by
    have k1 := key e a1 b2
    have k2 := key e.symm b1 a2
    omega
  obtain ⟨rfl, e2⟩ := List.append_inj e hA
  rw [List.cons.injEq] at e2
  obtain ⟨rfl, e3⟩ := e2
  have key2 : ∀ {C y E C' y' E' : _} (_ : C ++ y :: E = C' ++ y' :: E') (_ : ∀ e ∈ E, ¬ Rl d x e) (_ : Rl d x y'), ¬ C.length < C'.length := by
    intro C y E C' y' E' e a3 b2 hlt
    rcases List.append_eq_append_iff.mp e with ⟨zs, h3, h4⟩ | ⟨zs, h3, h4⟩
    · cases zs with
      | nil => rw [h3] at hlt; simp at hlt
      | cons z zs =>
        rw [List.cons_append, List.cons.injEq] at h4
        obtain ⟨rfl, h4⟩ := h4
        exact a3 y' (by rw [h4]; simp) b2
    · rw [h3] at hlt; simp at hlt; omega
  have hC : C.length = C'.length := by
    have k1 := key2 e3 a3 b2
    have k2 := key2 e3.symm b3 a2
    omega
  obtain ⟨rfl, e4⟩ := List.append_inj e3 hC
  rw [List.cons.injEq] at e4
  obtain ⟨rfl, rfl⟩ := e4
  rfl
theorem dn_no {d : Bool} {t t' : List Int} (h : Dn d t) (hs : Stp d t t') : False := by
  obtain ⟨A, x, C, y, E, rfl, _, h2, _, _⟩ := hs
  exact (List.pairwise_cons.mp (dn_right h)).1 y (by simp) h2
def digL (l : List Int) : Prop := ∀ x ∈ l, 0 ≤ x ∧ x ≤ 9
theorem val_app (a : Int) (A B : List Int) : val a (A ++ B) = val (val a A) B := by unfold val; rw [List.foldl_append]
theorem val_eq (a : Int) (l : List Int) : val a l = a * 10 ^ l.length + val 0 l := by
  induction l generalizing a with
  | nil => simp [val]
  | cons x l ih =>
    have h1 := ih (10 * a + x)
    have h2 := ih (10 * 0 + x)
    show val (10 * a + x) l = a * 10 ^ (l.length + 1) + val (10 * 0 + x) l
    rw [h1, h2, Int.pow_succ]
    grind
theorem val_lt (A B B' : List Int) (x y : Int) (hB : digL B) (hB' : digL B') (hl : B.length = B'.length) (h : x < y) (a : Int) : val a (A ++ x :: B) < val a (A ++ y :: B') := by
  rw [val_app, val_app]
  show val (10 * val a A + x) B < val (10 * val a A + y) B'
  rw [val_eq _ B, val_eq _ B', hl]
  have h1 := val_range B.length B 0 (Nat.le_refl _) hB (Int.le_refl 0)
  have h2 := val_range B'.length B' 0 (Nat.le_refl _) hB' (Int.le_refl 0)
  rw [hl] at h1
  have h3 : (10 * val a A + x + 1) * 10 ^ B'.length ≤ (10 * val a A + y) * 10 ^ B'.length := Int.mul_le_mul_of_nonneg_right (by omega) (Int.pow_nonneg (by omega))
  have h4 : (10 * val a A + x + 1) * 10 ^ B'.length = (10 * val a A + x) * 10 ^ B'.length + 10 ^ B'.length := by grind
  have h5 : ((0 : Int) + 1) * 10 ^ B'.length = 10 ^ B'.length := by grind
  omega
theorem stp_dig {d : Bool} {t t' : List Int} (h : Stp d t t') (ht : digL t) : digL t' := fun x hx => ht x ((stp_perm h).mem_iff.mp hx)
theorem stp_len {d : Bool} {t t' : List Int} (h : Stp d t t') : t'.length = t.length := (stp_perm h).length_eq
theorem stp_val {d : Bool} {t t' : List Int} (h : Stp d t t') (ht : digL t) : Rl d (val 0 t) (val 0 t') := by
  have ht' := stp_dig h ht
  have hl := stp_len h
  obtain ⟨A, x, C, y, E, rfl, _, h2, _, rfl⟩ := h
  have hB : digL (C ++ y :: E) := fun z hz => ht z (List.mem_append_right _ (List.mem_cons_of_mem _ hz))
  have hB' : digL (E.reverse ++ x :: C.reverse) := fun z hz => ht' z (List.mem_append_right _ (List.mem_cons_of_mem _ hz))
  have hll : (C ++ y :: E).length = (E.reverse ++ x :: C.reverse).length := by simp; omega
  cases d with
  | false => exact (Rl_f _ _).mpr (val_lt A _ _ x y hB hB' hll ((Rl_f _ _).mp h2) 0)
  | true => exact (Rl_t _ _).mpr (val_lt A _ _ y x hB' hB hll.symm ((Rl_t _ _).mp h2) 0)

/-! ### the last and the first order of digits -/
theorem dn_eq {t u : List Int} (ht : Dn false t) (hu : Dn false u) (hp : u.Perm t) : t = u :=
  (hp.symm).eq_of_pairwise (fun a b _ _ h1 h2 => by rw [Rl_f] at h1 h2; omega) ht hu
theorem val_le_dn (u : List Int) (hu : Dn false u) : ∀ (m : Nat) (t : List Int), ((10 : Int) ^ u.length - val 0 t).toNat ≤ m → digL t → u.Perm t → val 0 t ≤ val 0 u ∧ (¬ Dn false t → val 0 t < val 0 u) := by
  intro m
  induction m with
  | zero =>
    intro t hm ht hp
    have h1 := val_range t.length t 0 (Nat.le_refl _) ht (Int.le_refl 0)
    rw [← hp.length_eq] at h1
    have h5 : ((0 : Int) + 1) * 10 ^ u.length = 10 ^ u.length := by grind
    omega
  | succ m ih =>
    intro t hm ht hp
    rcases stp_or false t with h | ⟨t', h⟩
    · rw [dn_eq h hu hp]
      exact ⟨Int.le_refl _, fun c => absurd hu c⟩
    · have hv := (Rl_f _ _).mp (stp_val h ht)
      have h1 := val_range t'.length t' 0 (Nat.le_refl _) (stp_dig h ht) (Int.le_refl 0)
      rw [stp_len h, ← hp.length_eq] at h1
      have h5 : ((0 : Int) + 1) * 10 ^ u.length = 10 ^ u.length := by grind
      have := (ih t' (by omega) (stp_dig h ht) (hp.trans (stp_perm h).symm)).1
      exact ⟨by omega, fun _ => by omega⟩
theorem greatest_le (u t : List Int) (hu : Dn false u) (ht : digL t) (hp : u.Perm t) : val 0 t ≤ val 0 u ∧ (¬ Dn false t → val 0 t < val 0 u) := val_le_dn u hu _ t (Nat.le_refl _) ht hp
theorem greatest_eq (u t : List Int) (hu : Dn false u) (hp : u.Perm t) (h : Dn false t) : val 0 t = val 0 u := by rw [dn_eq h hu hp]
def lead (t : List Int) : Prop := ∃ x B, t = x :: B ∧ (x ≠ 0 ∨ B = [])
theorem cs_permD {l : List Int} (hl : digL l) : (cs l 10).Perm l := by
  have := cs_perm l 10
  have e : (l.filter fun x => decide (0 ≤ x ∧ x < ((10 : Nat) : Int))) = l := List.filter_eq_self.mpr (fun x hx => by have := hl x hx; simp; omega)
  rw [e] at this
  exact this
theorem asc_eq {t u : List Int} (ht : t.Pairwise (· ≤ ·)) (hu : u.Pairwise (· ≤ ·)) (hp : u.Perm t) : u = t :=
  hp.eq_of_pairwise (fun a b _ _ h1 h2 => by omega) hu ht
theorem cs_asc {l u : List Int} (hl : digL l) (hu : u.Pairwise (· ≤ ·)) (hp : u.Perm l) : cs l 10 = u :=
  (asc_eq (cs_sorted l 10).1 hu (hp.trans (cs_permD hl).symm)).symm
theorem dn_asc {t : List Int} : Dn true t ↔ t.Pairwise (· ≤ ·) := by
  constructor
  · exact fun h => h.imp (fun {a b} q => by rw [Rl_t] at q; omega)
  · exact fun h => h.imp (fun {a b} q => by rw [Rl_t]; omega)
theorem ix_nz {x : Int} (B : List Int) (h : x ≠ 0) (i : Int) : ix (x :: B) i = i := by simp [ix, h]
theorem ix_rep (k : Nat) (L : List Int) : ∀ i : Int, ix (List.replicate k 0 ++ L) i = ix L (i + k) := by
  induction k with
  | zero => intro i; simp
  | succ k ih =>
    intro i
    rw [List.replicate_succ, List.cons_append]
    simp only [ix, if_true]
    rw [ih]
    congr 1; omega
theorem sw_nz {x : Int} (B : List Int) (h : x ≠ 0) : sw (x :: B) = x :: B := by
  unfold sw
  rw [ix_nz B h, if_neg (by omega)]
theorem sw_zero : sw [0] = [0] := by unfold sw; rw [if_neg (by simp [ix])]
theorem sw_rep (k : Nat) {x : Int} (R : List Int) (h : x ≠ 0) : sw (List.replicate (k + 1) 0 ++ x :: R) = x :: (List.replicate k 0 ++ 0 :: R) := by
  unfold sw
  rw [ix_rep, ix_nz R h, if_pos (by omega)]
  have e1 : rd (List.replicate (k + 1) 0 ++ x :: R) ((0 : Int) + ((k + 1 : Nat) : Int)) = x := by
    rw [show (0 : Int) + ((k + 1 : Nat) : Int) = ((k + 1 : Nat) : Int) by omega, rd_at _ _ (by simp)]
    rw [List.getElem_append_right (by simp)]
    simp
  have e2 : rd (List.replicate (k + 1) 0 ++ x :: R) 0 = 0 := by
    have := rd_at (List.replicate (k + 1) 0 ++ x :: R) 0 (by simp; omega)
    rw [show ((0 : Nat) : Int) = 0 from rfl] at this
    rw [this, List.getElem_append_left (by simp)]
    simp
  rw [e1, e2]
  have e3 : ((0 : Int) + ((k + 1 : Nat) : Int)).toNat = k + 1 := by omega
  rw [e3, List.replicate_succ, List.cons_append, List.set_cons_zero, List.set_cons_succ]
  congr 1
  rw [List.set_append_right _ _ (by simp)]
  simp
/-- Digits in order that fall off only by a 0 in front: the least number of them is this one. -/
theorem sw_end {x : Int} {C E : List Int} (hx : x ≠ 0) (ht : digL (x :: (C ++ 0 :: E))) (hd : Dn true (C ++ 0 :: E)) (hE : ∀ e ∈ E, ¬ Rl true x e) : sw (cs (x :: (C ++ 0 :: E)) 10) = x :: (C ++ 0 :: E) := by
  have hp := List.pairwise_append.mp (dn_asc.mp hd)
  have hC : C = List.replicate C.length 0 := by
    refine List.eq_replicate_iff.mpr ⟨rfl, fun b hb => ?_⟩
    have h1 := hp.2.2 b hb 0 List.mem_cons_self
    have h2 := ht b (by simp [hb])
    omega
  have hE2 := (List.pairwise_cons.mp hp.2.1).2
  have hcs : cs (x :: (C ++ 0 :: E)) 10 = List.replicate (C.length + 1) 0 ++ x :: E := by
    refine cs_asc ht ?_ ?_
    · refine List.pairwise_append.mpr ⟨List.pairwise_replicate.mpr (.inr (Int.le_refl 0)), List.pairwise_cons.mpr ⟨fun a ha => by have := hE a ha; rw [Rl_t] at this; omega, hE2⟩, ?_⟩
      intro a ha b hb
      have ha := (List.mem_replicate.mp ha).2
      have := ht b (by rcases List.mem_cons.mp hb with rfl | hb; exact List.mem_cons_self; simp [hb])
      omega
    · refine List.perm_middle.trans (List.Perm.cons x ?_)
      rw [List.replicate_succ', List.append_assoc, ← hC]
      exact List.Perm.refl _
  rw [hcs, sw_rep _ _ hx, ← hC]
theorem sw_lead {t : List Int} (hd : digL t) (hl : lead t) (hno : ∀ t', Stp true t t' → ¬ lead t') : sw (cs t 10) = t := by
  obtain ⟨x, B, rfl, hx⟩ := hl
  by_cases hx0 : x = 0
  · rcases hx with hx | rfl
    · exact absurd hx0 hx
    · subst hx0
      rw [cs_asc hd (List.pairwise_singleton _ _) (List.Perm.refl _), sw_zero]
  · rcases stp_or true (x :: B) with h | ⟨t', h⟩
    · rw [cs_asc hd (dn_asc.mp h) (List.Perm.refl _), sw_nz B hx0]
    · have hn := hno _ h
      obtain ⟨A, a, C, y, E, e, h1, h2, h3, rfl⟩ := h
      cases A with
      | cons z A =>
        rw [List.cons_append, List.cons.injEq] at e
        obtain ⟨rfl, -⟩ := e
        exact absurd ⟨x, _, rfl, .inl hx0⟩ hn
      | nil =>
        rw [List.nil_append, List.cons.injEq] at e
        obtain ⟨rfl, rfl⟩ := e
        have hy : y = 0 := by
          by_cases c : y = 0
          · exact c
          · exact absurd ⟨y, _, rfl, .inl c⟩ hn
        subst hy
        exact sw_end hx0 hd h1 h3
theorem cs_congr {t u : List Int} (hu : digL u) (hp : t.Perm u) : cs t 10 = cs u 10 := by
  have ht : digL t := fun x hx => hu x (hp.mem_iff.mp hx)
  exact asc_eq (cs_sorted u 10).1 (cs_sorted t 10).1 ((cs_permD ht).trans (hp.trans (cs_permD hu).symm))
theorem least_le : ∀ (m : Nat) (t : List Int), (val 0 t).toNat ≤ m → digL t → lead t → val 0 (sw (cs t 10)) ≤ val 0 t ∧ ((∃ t', Stp true t t' ∧ lead t') → val 0 (sw (cs t 10)) < val 0 t) := by
  intro m
  induction m with
  | zero =>
    intro t hm hd hl
    have hno : ∀ t', Stp true t t' → ¬ lead t' := by
      intro t' h _
      have h0 := (Rl_t _ _).mp (stp_val h hd)
      have h1 := val_range t'.length t' 0 (Nat.le_refl _) (stp_dig h hd) (Int.le_refl 0)
      omega
    rw [sw_lead hd hl hno]
    exact ⟨Int.le_refl _, fun ⟨t', h, h2⟩ => absurd h2 (hno t' h)⟩
  | succ m ih =>
    intro t hm hd hl
    by_cases c : ∃ t', Stp true t t' ∧ lead t'
    · obtain ⟨t', h, h2⟩ := c
      have h0 := (Rl_t _ _).mp (stp_val h hd)
      have h1 := val_range t'.length t' 0 (Nat.le_refl _) (stp_dig h hd) (Int.le_refl 0)
      have := (ih t' (by omega) (stp_dig h hd) h2).1
      rw [cs_congr hd (stp_perm h)] at this
      exact ⟨by omega, fun _ => by omega⟩
    · have hno : ∀ t', Stp true t t' → ¬ lead t' := fun t' h h2 => c ⟨t', h, h2⟩
      rw [sw_lead hd hl hno]
      exact ⟨Int.le_refl _, fun ⟨t', h, h2⟩ => absurd h2 (hno t' h)⟩

/-! ### the program's and the reference's next order -/
theorem rd_mid (A B : List Int) (x : Int) : rd (A ++ x :: B) (A.length : Int) = x := by
  rw [rd_at _ _ (by simp)]
  rw [List.getElem_append_right (Nat.le_refl _)]
  simp
theorem rd_rt (A B : List Int) (x : Int) (q : Nat) (h : q < B.length) : rd (A ++ x :: B) ((A.length + 1 + q : Nat) : Int) = B[q] := by
  rw [rd_at _ _ (by simp; omega), List.getElem_append_right (by omega)]
  simp only [show A.length + 1 + q - A.length = q + 1 by omega]
  rfl
theorem dn_get {d : Bool} {B : List Int} (h : Dn d B) (i j : Nat) (hi : i < j) (hj : j < B.length) : ¬ Rl d B[i] B[j] := by
  unfold Dn at h
  rw [List.pairwise_iff_getElem] at h
  exact h i j (by omega) hj hi
theorem bef_iff (d : Bool) (a b : Int) : impl_step.bef d (48 + a) (48 + b) = true ↔ Rl d a b := by
  unfold impl_step.bef Rl
  by_cases h : (48 : Int) + a = 48 + b
  · rw [if_pos h]
    cases d
    · simp; omega
    · simp; omega
  · rw [if_neg h]
    cases d
    · simp only [bne_iff_ne, ne_eq, Bool.not_eq_false]
      first | (simp; omega) | simp | omega
    · simp only [bne_iff_ne, ne_eq, Bool.not_eq_true]
      first | (simp; omega) | simp | omega
theorem rd_map48 (l : List Int) (i : Nat) (h : i < l.length) : rd (l.map (48 + ·)) (i : Int) = 48 + rd l (i : Int) := by
  rw [rd_at _ _ (by simpa using h), rd_at _ _ h]; simp
theorem up_none (d : Bool) (l : List Int) (hd : Dn d l) : ∀ m, m + 1 ≤ l.length → impl_step.up d (l.map (48 + ·)) m = -1 := by
  intro m
  induction m with
  | zero => intro _; rfl
  | succ m ih =>
    intro h
    rw [impl_step.up]
    have e : ((m : Int) + 1) = ((m + 1 : Nat) : Int) := by omega
    rw [e, rd_map48 l m (by omega), rd_map48 l (m + 1) (by omega), rd_at _ _ (by omega), rd_at _ _ (by omega), if_neg ?_]
    · exact ih (by omega)
    · rw [bef_iff]; exact dn_get hd m (m + 1) (by omega) (by omega)
theorem up_at (d : Bool) (A : List Int) (x : Int) (B : List Int) (hB : Dn d B) (hx : ∃ y ∈ B, Rl d x y) : ∀ q, q < B.length → impl_step.up d ((A ++ x :: B).map (48 + ·)) (A.length + 1 + q) = (A.length : Int) := by
  intro q
  induction q with
  | zero =>
    intro h
    rw [Nat.add_zero, impl_step.up]
    have e : ((A.length : Int) + 1) = ((A.length + 1 + 0 : Nat) : Int) := by omega
    rw [e, rd_map48 _ _ (by simp), rd_map48 _ _ (by simp; omega), rd_mid, rd_rt _ _ _ 0 h, if_pos]
    rw [bef_iff]
    obtain ⟨y, hy, hr⟩ := hx
    cases B with
    | nil => simp at h
    | cons b B =>
      rcases List.mem_cons.mp hy with rfl | hy
      · exact hr
      · exact Rl_weak d hr ((List.pairwise_cons.mp hB).1 y hy)
  | succ q ih =>
    intro h
    rw [show A.length + 1 + (q + 1) = (A.length + 1 + q) + 1 by omega, impl_step.up]
    have e : (((A.length + 1 + q : Nat) : Int) + 1) = ((A.length + 1 + (q + 1) : Nat) : Int) := by omega
    rw [e, rd_map48 _ _ (by simp; omega), rd_map48 _ _ (by simp; omega), rd_rt _ _ _ q (by omega), rd_rt _ _ _ (q + 1) h, if_neg]
    · exact ih (by omega)
    · rw [bef_iff]; exact dn_get hB q (q + 1) (by omega) h
theorem dn_at (d : Bool) (L : List Int) (x y : Int) (E : List Int) (hr : Rl d x y) (hE : ∀ e ∈ E, ¬ Rl d x e) : ∀ q, q ≤ E.length → impl_step.dn d ((L ++ y :: E).map (48 + ·)) (48 + x) (L.length + 1 + q) = some L.length := by
  intro q
  induction q with
  | zero =>
    intro _
    rw [Nat.add_zero, impl_step.dn, rd_map48 _ _ (by simp), rd_mid, if_pos ((bef_iff d x y).mpr hr)]
  | succ q ih =>
    intro h
    rw [show L.length + 1 + (q + 1) = (L.length + 1 + q) + 1 by omega, impl_step.dn, rd_map48 _ _ (by simp; omega), rd_rt _ _ _ q (by omega), if_neg]
    · exact ih (by omega)
    · rw [bef_iff]; exact hE _ (List.getElem_mem _)
theorem set_two (A C E : List Int) (x y u v : Int) : ((A ++ x :: (C ++ y :: E)).set A.length u).set (A.length + 1 + C.length) v = A ++ u :: (C ++ v :: E) := by
  rw [List.set_append_right _ _ (Nat.le_refl _), Nat.sub_self, List.set_cons_zero, List.set_append_right _ _ (by omega), show A.length + 1 + C.length - A.length = C.length + 1 by omega, List.set_cons_succ, List.set_append_right _ _ (Nat.le_refl _), Nat.sub_self, List.set_cons_zero]
theorem bytes_strs (l : List Int) (hd : digL l) : bytesOf (strOfNums (l.map (48 + ·))) = l.map (48 + ·) := by
  unfold bytesOf strOfNums
  simp only [List.map_map]
  apply List.map_congr_left
  intro d hdm
  have := hd d hdm
  simp only [Function.comp]
  rw [UInt8.toNat_ofNat']
  omega
theorem strs_size (l : List Int) : (strOfNums (l.map (48 + ·))).size = l.length := by
  unfold strOfNums; rw [← size_len]; simp
theorem step_none (d : Bool) (s : ByteArray) (l : List Int) (hs : bytesOf s = l.map (48 + ·)) (hz : s.size = l.length) (hp : 0 < l.length) (hl : l.length ≤ 100) (h : Dn d l) : impl_step.f s d = some ((⟨#[]⟩ : ByteArray), false) := by
  unfold impl_step.f
  rw [if_pos (by omega), hs, hz, up_none d l h _ (by omega), if_pos (by omega)]
theorem step_some (d : Bool) (s : ByteArray) (l l' : List Int) (hs : bytesOf s = l.map (48 + ·)) (hz : s.size = l.length) (hl : l.length ≤ 100) (h : Stp d l l') : impl_step.f s d = some (strOfNums (l'.map (48 + ·)), true) := by
  obtain ⟨A, x, C, y, E, rfl, h1, h2, h3, rfl⟩ := h
  have eu : impl_step.up d ((A ++ x :: (C ++ y :: E)).map (48 + ·)) ((A ++ x :: (C ++ y :: E)).length - 1) = (A.length : Int) := by
    have := up_at d A x (C ++ y :: E) h1 ⟨y, by simp, h2⟩ (C.length + E.length) (by first | (simp; omega) | simp)
    rw [show (A ++ x :: (C ++ y :: E)).length - 1 = A.length + 1 + (C.length + E.length) by simp; omega]
    exact this
  have ed : impl_step.dn d ((A ++ x :: (C ++ y :: E)).map (48 + ·)) (48 + x) (A ++ x :: (C ++ y :: E)).length = some (A.length + 1 + C.length) := by
    have := dn_at d (A ++ x :: C) x y E h2 h3 E.length (Nat.le_refl _)
    rw [show (A ++ x :: C) ++ y :: E = A ++ x :: (C ++ y :: E) by simp, show (A ++ x :: C).length + 1 + E.length = (A ++ x :: (C ++ y :: E)).length by simp; omega, show (A ++ x :: C).length = A.length + 1 + C.length by simp; omega] at this
    exact this
  unfold impl_step.f
  rw [if_pos (by omega), hs, hz, eu, if_neg (by omega), rd_map48 _ _ (by simp), rd_mid, ed, Option.bind_some, Int.toNat_natCast]
  have es : impl_step.swap ((A ++ x :: (C ++ y :: E)).map (48 + ·)) A.length (A.length + 1 + C.length) = (A ++ y :: (C ++ x :: E)).map (48 + ·) := by
    unfold impl_step.swap
    have ey : rd (A ++ x :: (C ++ y :: E)) ((A.length + 1 + C.length : Nat) : Int) = y := by
      rw [rd_rt _ _ _ C.length (by simp), List.getElem_append_right (Nat.le_refl _)]; simp
    rw [rd_map48 _ _ (by simp; omega), rd_map48 _ _ (by simp), rd_mid, ey, ← List.map_set, ← List.map_set, set_two]
  rw [es, ← List.map_take, ← List.map_drop, ← List.map_reverse, ← List.map_append]
  have e1 : (A ++ y :: (C ++ x :: E)).take (A.length + 1) = A ++ [y] := by
    rw [show A ++ y :: (C ++ x :: E) = (A ++ [y]) ++ (C ++ x :: E) by simp, List.take_left' (by simp)]
  have e2 : (A ++ y :: (C ++ x :: E)).drop (A.length + 1) = C ++ x :: E := by
    rw [show A ++ y :: (C ++ x :: E) = (A ++ [y]) ++ (C ++ x :: E) by simp, List.drop_left' (by simp)]
  rw [e1, e2]
  simp

theorem rd_rtE (A B : List Int) (x : Int) (q : Nat) (h : q < B.length) (i : Int) (hi : i = ((A.length + 1 + q : Nat) : Int)) : rd (A ++ x :: B) i = B[q] := by rw [hi, rd_rt _ _ _ q h]
theorem geR (d : Bool) (a b : Int) : (if d = true then b ≤ a else a ≤ b) ↔ ¬ Rl (!d) a b := by cases d <;> simp [Rl]
/-- What is turned round by exchanging its ends. -/
theorem turn_loop : ∀ (n : Nat) (A M E : List Int), M.length ≤ n → (A ++ M ++ E).length ≤ 100 → Ev (fun k => spec_leTurn.l2 k (A ++ M ++ E) (A.length : Int) (((A.length + M.length : Nat) : Int) - 1)) (A ++ M.reverse ++ E, true)
  | n, A, [], E, _, hz => by
    refine ev_succ ?_
    simp only [spec_leTurn.l2]
    exact ev_neg (by simp only [List.length_nil]; omega) (ev_eq fun _ => by simp)
  | n, A, [m], E, _, hz => by
    refine ev_succ ?_
    simp only [spec_leTurn.l2]
    exact ev_neg (by simp only [List.length_singleton]; omega) (ev_eq fun _ => by simp)
  | n, A, a :: b :: M, E, hn, hz => by
    obtain ⟨n, rfl⟩ : ∃ q, n = q + 1 := ⟨n - 1, by simp at hn; omega⟩
    obtain ⟨M', c, hM⟩ : ∃ M' c, b :: M = M' ++ [c] := by
      rcases List.eq_nil_or_concat (b :: M) with h | ⟨l, c, h⟩
      · simp at h
      · exact ⟨l, c, by rw [h, List.concat_eq_append]⟩
    rw [hM] at hn hz ⊢
    have hlen : (a :: (M' ++ [c])).length = M'.length + 2 := by simp
    have e0 : A ++ a :: (M' ++ [c]) ++ E = A ++ a :: (M' ++ c :: E) := by simp
    have hz' : A.length + M'.length + 2 + E.length ≤ 100 := by simp at hz; omega
    have r0 : rd (A ++ a :: (M' ++ c :: E)) (A.length : Int) = a := rd_mid _ _ _
    have r1 : rd (A ++ a :: (M' ++ c :: E)) (((A.length + (a :: (M' ++ [c])).length : Nat) : Int) - 1) = c := by
      rw [rd_rtE A _ a M'.length (by simp) _ (by rw [hlen]; omega), List.getElem_append_right (Nat.le_refl _)]; simp
    have hL : ((A ++ a :: (M' ++ c :: E)).length : Int) = A.length + M'.length + 2 + E.length := by simp; omega
    have ih := turn_loop n (A ++ [c]) M' (a :: E) (by simp at hn; omega) (by simp; omega)
    have e1 : (A ++ a :: (M' ++ [c])).length = A.length + M'.length + 2 := by simp; omega
    have e2 : (A ++ [c]) ++ M' ++ a :: E = A ++ c :: (M' ++ a :: E) := by simp
    have e3 : (A ++ [c]) ++ M'.reverse ++ a :: E = A ++ (a :: (M' ++ [c])).reverse ++ E := by simp
    rw [e2, e3] at ih
    refine ev_succ ?_
    simp only [spec_leTurn.l2]
    rw [e0, r0, r1, hL, hlen]
    have s1 : (((A.length + (M'.length + 2) : Nat) : Int) - 1).toNat = A.length + 1 + M'.length := by omega
    rw [s1, Int.toNat_natCast, set_two]
    have w1 : wrap64 ((A.length : Int) + 1) = (((A ++ [c]).length : Nat) : Int) := by rw [wrap_nat (by omega)]; simp
    have w2 : wrap64 (((A.length + (M'.length + 2) : Nat) : Int) - 1 - 1) = (((A ++ [c]).length + M'.length : Nat) : Int) - 1 := by rw [wrap_of (by omega) (by omega)]; simp; omega
    rw [w1, w2]
    exact ev_pos (by omega) (ev_pos (by omega) (ev_pos (by omega) (ev_pos (by omega) (ev_pos (by omega) ih))))
theorem turn_j3 (A C E : List Int) (x y : Int) (hz : (A ++ x :: (C ++ y :: E)).length ≤ 100) : Ev (fun k => spec_leTurn.j3 k (A ++ x :: (C ++ y :: E)) (A.length : Int) ((A.length + 1 + C.length : Nat) : Int)) (A ++ y :: (E.reverse ++ x :: C.reverse), true) := by
  have hL : ((A ++ x :: (C ++ y :: E)).length : Int) = A.length + C.length + 2 + E.length := by simp; omega
  have hz' : A.length + C.length + 2 + E.length ≤ 100 := by simp at hz; omega
  have ey : rd (A ++ x :: (C ++ y :: E)) ((A.length + 1 + C.length : Nat) : Int) = y := by
    rw [rd_rt _ _ _ C.length (by simp), List.getElem_append_right (Nat.le_refl _)]; simp
  refine ev_succ ?_
  simp only [spec_leTurn.j3]
  rw [rd_mid, ey, hL, Int.toNat_natCast, Int.toNat_natCast, set_two]
  have h := turn_loop (C ++ x :: E).length (A ++ [y]) (C ++ x :: E) [] (Nat.le_refl _) (by simp; omega)
  have e1 : (A ++ [y]) ++ (C ++ x :: E) ++ [] = A ++ y :: (C ++ x :: E) := by simp
  have e2 : (A ++ [y]) ++ (C ++ x :: E).reverse ++ [] = A ++ y :: (E.reverse ++ x :: C.reverse) := by simp
  rw [e1, e2] at h
  have w1 : wrap64 ((A.length : Int) + 1) = (((A ++ [y]).length : Nat) : Int) := by rw [wrap_nat (by omega)]; simp
  have w2 : wrap64 ((A.length : Int) + C.length + 2 + E.length - 1) = (((A ++ [y]).length + (C ++ x :: E).length : Nat) : Int) - 1 := by rw [wrap_of (by omega) (by omega)]; simp; omega
  rw [w1, w2]
  exact ev_pos (by omega) (ev_pos (by omega) (ev_pos (by omega) (ev_pos (by omega) h)))
theorem turn_l1 (d : Bool) (A C E : List Int) (x y : Int) (hz : (A ++ x :: (C ++ y :: E)).length ≤ 100) (hr : Rl (!d) x y) (hE : ∀ e ∈ E, ¬ Rl (!d) x e) : ∀ q, q ≤ E.length → Ev (fun k => spec_leTurn.l1 k d (A ++ x :: (C ++ y :: E)) (A.length : Int) ((A.length + 1 + C.length + q : Nat) : Int)) (A ++ y :: (E.reverse ++ x :: C.reverse), true) := by
  have hL : ((A ++ x :: (C ++ y :: E)).length : Int) = A.length + C.length + 2 + E.length := by simp; omega
  have hz' : A.length + C.length + 2 + E.length ≤ 100 := by simp at hz; omega
  intro q
  induction q with
  | zero =>
    intro _
    have ey : rd (A ++ x :: (C ++ y :: E)) ((A.length + 1 + C.length : Nat) : Int) = y := by
      rw [rd_rt _ _ _ C.length (by simp), List.getElem_append_right (Nat.le_refl _)]; simp
    refine ev_succ ?_
    simp only [spec_leTurn.l1]
    rw [Nat.add_zero, rd_mid, ey, hL]
    have h := turn_j3 A C E x y hz
    cases d with
    | true => exact ev_pos rfl (ev_pos (by omega) (ev_pos (by omega) (ev_pos (by omega) (ev_pos (by omega) (ev_neg (by have := (Rl_f _ _).mp hr; omega) h)))))
    | false => exact ev_neg (by decide) (ev_pos (by omega) (ev_pos (by omega) (ev_pos (by omega) (ev_pos (by omega) (ev_neg (by have := (Rl_t _ _).mp hr; omega) h)))))
  | succ q ih =>
    intro hq
    have ee : rd (A ++ x :: (C ++ y :: E)) ((A.length + 1 + C.length + (q + 1) : Nat) : Int) = E[q] := by
      rw [rd_rtE A _ x (C.length + 1 + q) (by simp; omega) _ (by omega), List.getElem_append_right (by omega)]
      simp only [show C.length + 1 + q - C.length = q + 1 by omega]
      rfl
    have he := hE E[q] (List.getElem_mem _)
    refine ev_succ ?_
    simp only [spec_leTurn.l1]
    rw [rd_mid, ee, hL]
    have w : wrap64 (((A.length + 1 + C.length + (q + 1) : Nat) : Int) - 1) = ((A.length + 1 + C.length + q : Nat) : Int) := by rw [wrap_of (by omega) (by omega)]; omega
    rw [w]
    have h := ih (by omega)
    cases d with
    | true => exact ev_pos rfl (ev_pos (by omega) (ev_pos (by omega) (ev_pos (by omega) (ev_pos (by omega) (ev_pos (by have := (not_congr (Rl_f _ _)).mp he; omega) h)))))
    | false => exact ev_neg (by decide) (ev_pos (by omega) (ev_pos (by omega) (ev_pos (by omega) (ev_pos (by omega) (ev_pos (by have := (not_congr (Rl_t _ _)).mp he; omega) h)))))
/-- One look at two neighbours. -/
theorem turn_l0 (d : Bool) (l : List Int) (i : Nat) (hi : i + 1 < l.length) (hz : l.length ≤ 100) (r : List Int × Bool) (h : (¬ Rl (!d) l[i] l[i + 1] ∧ Ev (fun k => spec_leTurn.l0 k d l ((i : Int) - 1)) r) ∨ (Rl (!d) l[i] l[i + 1] ∧ Ev (fun k => spec_leTurn.l1 k d l (i : Int) ((l.length : Int) - 1)) r)) : Ev (fun k => spec_leTurn.l0 k d l (i : Int)) r := by
  refine ev_succ ?_
  simp only [spec_leTurn.l0]
  have w1 : wrap64 ((i : Int) + 1) = ((i + 1 : Nat) : Int) := wrap_nat (by omega)
  rw [w1, rd_at l i (by omega), rd_at l (i + 1) hi]
  have w2 : wrap64 ((i : Int) - 1) = (i : Int) - 1 := wrap_of (by omega) (by omega)
  have w3 : wrap64 ((l.length : Int) - 1) = (l.length : Int) - 1 := wrap_of (by omega) (by omega)
  have j1t : (¬ Rl (!d) l[i] l[i + 1]) → Ev (fun k => spec_leTurn.l0 k d l ((i : Int) - 1)) r → Ev (fun k => spec_leTurn.j1 k d l (i : Int) true) r := by
    intro _ h
    refine ev_succ ?_
    simp only [spec_leTurn.j1]
    rw [w2]; exact ev_pos (by trivial) h
  have j1f : Ev (fun k => spec_leTurn.l1 k d l (i : Int) ((l.length : Int) - 1)) r → Ev (fun k => spec_leTurn.j1 k d l (i : Int) false) r := by
    intro h
    refine ev_succ ?_
    simp only [spec_leTurn.j1]
    rw [w3]; exact ev_neg (by decide) h
  refine ev_pos (by omega) ?_
  cases d with
  | true =>
    refine ev_pos rfl (ev_pos (by omega) (ev_pos (by omega) (ev_pos (by omega) (ev_pos (by omega) ?_))))
    rcases h with ⟨h1, h2⟩ | ⟨h1, h2⟩
    · exact ev_pos (by have := (not_congr (Rl_f _ _)).mp h1; omega) (j1t h1 h2)
    · exact ev_neg (by have := (Rl_f _ _).mp h1; omega) (j1f h2)
  | false =>
    refine ev_neg (by decide) (ev_pos (by omega) (ev_pos (by omega) (ev_pos (by omega) (ev_pos (by omega) ?_))))
    rcases h with ⟨h1, h2⟩ | ⟨h1, h2⟩
    · rw [decide_eq_true (by have := (not_congr (Rl_t _ _)).mp h1; omega)]; exact j1t h1 h2
    · rw [decide_eq_false (by have := (Rl_t _ _).mp h1; omega)]; exact j1f h2
theorem own_eq' (l : List Int) (hz : l.length ≤ 100) : spec_l1Own.f l = some l := by
  unfold spec_l1Own.f
  simp only [Option.bind_some, List.length_nil, List.nil_append]
  rw [if_pos (by omega)]
theorem turn_none (d : Bool) (l : List Int) (hz : l.length ≤ 100) (h : Dn (!d) l) : Ev (fun k => spec_leTurn.f k l d) (([] : List Int), false) := by
  have go : ∀ i : Nat, i < l.length → Ev (fun k => spec_leTurn.l0 k d l ((i : Int) - 1)) (([] : List Int), false) := by
    intro i
    induction i with
    | zero =>
      intro _
      refine ev_succ ?_
      simp only [spec_leTurn.l0]
      exact ev_neg (by omega) (ev_eq fun _ => rfl)
    | succ i ih =>
      intro hi
      have e : ((i + 1 : Nat) : Int) - 1 = (i : Int) := by omega
      rw [e]
      exact turn_l0 d l i hi hz _ (.inl ⟨dn_get h i (i + 1) (by omega) hi, ih (by omega)⟩)
  unfold spec_leTurn.f
  refine ev_bind (own_eq' l hz) ?_
  rw [wrap_of (by omega) (by omega)]
  by_cases c : l.length = 0
  · refine ev_succ ?_
    simp only [spec_leTurn.l0]
    exact ev_neg (by omega) (ev_eq fun _ => rfl)
  · have := go (l.length - 1) (by omega)
    rw [show ((l.length - 1 : Nat) : Int) - 1 = (l.length : Int) - 2 by omega] at this
    exact this
theorem turn_some (d : Bool) (l l' : List Int) (hz : l.length ≤ 100) (h : Stp (!d) l l') : Ev (fun k => spec_leTurn.f k l d) (l', true) := by
  obtain ⟨A, x, C, y, E, rfl, h1, h2, h3, rfl⟩ := h
  have hL : (A ++ x :: (C ++ y :: E)).length = A.length + C.length + 2 + E.length := by simp; omega
  have h0 : 0 < (C ++ y :: E).length := by simp; omega
  have hb : Rl (!d) x ((C ++ y :: E)[0]'h0) := by
    cases C with
    | nil => exact h2
    | cons c C => exact Rl_weak (!d) h2 ((List.pairwise_cons.mp h1).1 y (by simp))
  have go : ∀ q : Nat, q < (C ++ y :: E).length → Ev (fun k => spec_leTurn.l0 k d (A ++ x :: (C ++ y :: E)) ((A.length + q : Nat) : Int)) (A ++ y :: (E.reverse ++ x :: C.reverse), true) := by
    intro q
    induction q with
    | zero =>
      intro _
      refine turn_l0 d _ (A.length + 0) (by rw [hL]; omega) hz _ (.inr ⟨?_, ?_⟩)
      · have g1 : (A ++ x :: (C ++ y :: E))[A.length + 0]'(by rw [hL]; omega) = x := by simp
        have g2 : (A ++ x :: (C ++ y :: E))[A.length + 0 + 1]'(by rw [hL]; omega) = (C ++ y :: E)[0]'h0 := by
          rw [List.getElem_append_right (by omega)]; simp
        rw [g1, g2]; exact hb
      · have := turn_l1 d A C E x y hz h2 h3 E.length (Nat.le_refl _)
        rw [show ((A.length + 1 + C.length + E.length : Nat) : Int) = ((A ++ x :: (C ++ y :: E)).length : Int) - 1 by rw [hL]; omega] at this
        exact this
    | succ q ih =>
      intro hq
      refine turn_l0 d _ (A.length + (q + 1)) (by rw [hL]; simp at hq; omega) hz _ (.inl ⟨?_, ?_⟩)
      · have g1 : (A ++ x :: (C ++ y :: E))[A.length + (q + 1)]'(by rw [hL]; simp at hq; omega) = (C ++ y :: E)[q] := by
          rw [List.getElem_append_right (by omega)]; simp
        have g2 : (A ++ x :: (C ++ y :: E))[A.length + (q + 1) + 1]'(by rw [hL]; simp at hq; omega) = (C ++ y :: E)[q + 1] := by
          rw [List.getElem_append_right (by omega)]; simp only [show A.length + (q + 1) + 1 - A.length = q + 1 + 1 by omega, List.getElem_cons_succ]
        rw [g1, g2]
        exact dn_get h1 q (q + 1) (by omega) hq
      · rw [show ((A.length + (q + 1) : Nat) : Int) - 1 = ((A.length + q : Nat) : Int) by omega]
        exact ih (by omega)
  unfold spec_leTurn.f
  refine ev_bind (own_eq' _ hz) ?_
  rw [wrap_of (by omega) (by omega)]
  have := go (C.length + E.length) (by first | (simp; omega) | simp)
  rw [show ((A.length + (C.length + E.length) : Nat) : Int) = ((A ++ x :: (C ++ y :: E)).length : Int) - 2 by rw [hL]; omega] at this
  exact this

/-! ### the next and the last number with the same digits, both sides -/
theorem dI_small {n : Nat} (h : n < 10) : dI n = [(n : Int)] := by unfold dI; rw [dgs_small h]; rfl
theorem dI_big {n : Nat} (h : ¬ n < 10) : dI n = dI (n / 10) ++ [((n % 10 : Nat) : Int)] := by unfold dI; rw [dgs_big h, List.map_append]; rfl
theorem val_dI (n : Nat) : val 0 (dI n) = (n : Int) := by
  induction n using Nat.strongRecOn with
  | _ n ih =>
    by_cases h : n < 10
    · rw [dI_small h]; simp [val]
    · rw [dI_big h, val_snoc, ih (n / 10) (by omega)]; omega
theorem lead_dI (n : Nat) : lead (dI n) ∧ (1 ≤ n → ∃ x B, dI n = x :: B ∧ x ≠ 0) := by
  induction n using Nat.strongRecOn with
  | _ n ih =>
    by_cases h : n < 10
    · rw [dI_small h]; exact ⟨⟨_, _, rfl, .inr rfl⟩, fun _ => ⟨_, _, rfl, by omega⟩⟩
    · obtain ⟨x, B, e, hx⟩ := (ih (n / 10) (by omega)).2 (by omega)
      rw [dI_big h, e]
      exact ⟨⟨_, _, rfl, .inl hx⟩, fun _ => ⟨_, _, rfl, hx⟩⟩
theorem val_pos {x : Int} {B : List Int} (h : digL (x :: B)) (hx : x ≠ 0) : 1 ≤ val 0 (x :: B) := by
  have h0 := h x List.mem_cons_self
  show 1 ≤ val (10 * 0 + x) B
  rw [val_eq]
  have h1 := val_range B.length B 0 (Nat.le_refl _) (fun y hy => h y (List.mem_cons_of_mem _ hy)) (Int.le_refl 0)
  have h2 : (1 : Int) ≤ 10 ^ B.length := by have := Nat.one_le_pow B.length 10 (by decide); have e : (10 : Int) ^ B.length = ((10 ^ B.length : Nat) : Int) := (by simp); omega
  have h3 : 1 * (10 : Int) ^ B.length ≤ (10 * 0 + x) * 10 ^ B.length := Int.mul_le_mul_of_nonneg_right (by omega) (by omega)
  omega
theorem dI_val_aux : ∀ (n : Nat) (x : Int) (B : List Int), B.length ≤ n → digL (x :: B) → x ≠ 0 → dI (val 0 (x :: B)).toNat = x :: B := by
  intro n
  induction n with
  | zero =>
    intro x B hn hd hx
    have hB : B = [] := List.eq_nil_of_length_eq_zero (by omega)
    subst hB
    have := hd x List.mem_cons_self
    rw [dI_small (by simp [val]; omega)]
    simp [val]; omega
  | succ n ih =>
    intro x B hn hd hx
    rcases List.eq_nil_or_concat B with rfl | ⟨M, e, rfl⟩
    · have := hd x List.mem_cons_self
      rw [dI_small (by simp [val]; omega)]
      simp [val]; omega
    · rw [List.concat_eq_append] at hn hd ⊢
      have hM : digL (x :: M) := fun y hy => hd y (by rcases List.mem_cons.mp hy with rfl | hy; exact List.mem_cons_self; simp [hy])
      have he := hd e (by simp)
      have h1 := ih x M (by simp at hn; omega) hM hx
      have h2 := val_pos hM hx
      have ev : val 0 (x :: (M ++ [e])) = 10 * val 0 (x :: M) + e := by rw [← List.cons_append, val_snoc]
      rw [ev, dI_big (by omega), show (10 * val 0 (x :: M) + e).toNat / 10 = (val 0 (x :: M)).toNat by omega, h1, show (((10 * val 0 (x :: M) + e).toNat % 10 : Nat) : Int) = e by omega]
      rfl
theorem dI_val {t : List Int} (hd : digL t) (hl : lead t) : dI (val 0 t).toNat = t := by
  obtain ⟨x, B, rfl, hx⟩ := hl
  by_cases c : x = 0
  · rcases hx with hx | rfl
    · exact absurd c hx
    · subst c; show dI 0 = [0]; rw [dI_small (by omega)]; rfl
  · exact dI_val_aux _ x B (Nat.le_refl _) hd c
theorem stp_two {d : Bool} {t t' : List Int} (h : Stp d t t') : 2 ≤ t.length := by
  obtain ⟨A, x, C, y, E, rfl, _⟩ := h
  simp; omega
theorem dI_len13 {n : Nat} (h : n ≤ 1000000000000) : (dI n).length ≤ 13 := by rw [dI_len]; exact dgs_len 12 n (by omega)
theorem dI_len12 {n : Nat} (h : n < 1000000000000) : (dI n).length ≤ 12 := by rw [dI_len]; exact dgs_len 11 n (by omega)
theorem dI_top : dI 1000000000000 = [1, 0, 0, 0, 0, 0, 0, 0, 0, 0, 0, 0, 0] :=
  dI_val (t := [1, 0, 0, 0, 0, 0, 0, 0, 0, 0, 0, 0, 0]) (by intro x hx; simp at hx; omega) ⟨1, _, rfl, .inl (by decide)⟩
theorem dn_top : Dn false (dI 1000000000000) := by rw [dI_top]; unfold Dn Rl; decide
theorem next_small {n : Nat} (h : n ≤ 1000000000000) {t' : List Int} (hs : Stp false (dI n) t') : n < 1000000000000 ∧ 0 ≤ val 0 t' ∧ val 0 t' < 1000000000000 := by
  have hn : n < 1000000000000 := by
    by_cases c : n < 1000000000000
    · exact c
    · obtain rfl : n = 1000000000000 := by omega
      exact (dn_no dn_top hs).elim
  have hd := stp_dig hs (dI_range n)
  have h1 := val_range t'.length t' 0 (Nat.le_refl _) hd (Int.le_refl 0)
  have h2 := dI_len12 hn
  rw [stp_len hs] at h1
  have h3 : (10 : Int) ^ (dI n).length ≤ 10 ^ 12 := by
    have := Nat.pow_le_pow_right (n := 10) (by decide) h2
    have e : (10 : Int) ^ (dI n).length = ((10 ^ (dI n).length : Nat) : Int) := by simp
    rw [e]; omega
  have h5 : ((0 : Int) + 1) * 10 ^ (dI n).length = 10 ^ (dI n).length := by grind
  exact ⟨hn, h1.1, by omega⟩
theorem okL {n : Nat} (h : n ≤ 1000000000000) : decide (0 ≤ (n : Int) ∧ (n : Int) ≤ 1000000000000) = true := decide_eq_true (by omega)
theorem itoa_bytes (n : Nat) : (⟨(Lib.itoa (n : Int)).toArray⟩ : ByteArray).size = (dI n).length := by rw [itoa_size, dI_len]
theorem next_ev (n : Nat) (h : n ≤ 1000000000000) : ∃ o : Int × Bool, Ev (fun k => impl_NextSameDigits.f k (n : Int)) o ∧ Ev (fun k => spec_NextSameDigits.f k (n : Int)) o ∧ ((o = (0, false) ∧ Dn false (dI n)) ∨ ∃ t', Stp false (dI n) t' ∧ o = (val 0 t', true)) := by
  have hl := dI_len13 h
  have hp : 0 < (dI n).length := by rw [dI_len]; exact dgs_pos n
  rcases stp_or false (dI n) with hd | ⟨t', hs⟩
  · refine ⟨(0, false), ?_, ?_, .inl ⟨rfl, hd⟩⟩
    · unfold impl_NextSameDigits.f
      refine ev_bind (isLeast_eq _) (ev_pos (okL h) (ev_bind (itoa_ev n (by omega)) ?_))
      exact ev_bind (step_none false _ (dI n) (bytesOf_itoa n) (itoa_bytes n) hp (by omega) hd) (ev_neg (by simp) (ev_eq fun _ => rfl))
    · unfold spec_NextSameDigits.f
      refine ev_bind (leNumber_eq _) (ev_pos (okL h) (Ev.bind (leList_ev n h) ?_))
      exact Ev.bind (turn_none true (dI n) (by omega) hd) (ev_neg (by simp) (ev_eq fun _ => rfl))
  · have hg := stp_dig hs (dI_range n)
    have hz : t'.length ≤ 13 := by rw [stp_len hs]; exact hl
    obtain ⟨hn, v0, v1⟩ := next_small h hs
    refine ⟨(val 0 t', true), ?_, ?_, .inr ⟨t', hs, rfl⟩⟩
    · unfold impl_NextSameDigits.f
      refine ev_bind (isLeast_eq _) (ev_pos (okL h) (ev_bind (itoa_ev n (by omega)) ?_))
      refine ev_bind (step_some false _ (dI n) t' (bytesOf_itoa n) (itoa_bytes n) (by omega) hs) (ev_pos rfl ?_)
      refine Ev.bind (numberOf_ev t' hz hg) (ev_bind (isLeast_eq _) (ev_pos (decide_eq_true (by omega)) ?_))
      exact Ev.bind (numberOf_ev t' hz hg) (ev_eq fun _ => rfl)
    · unfold spec_NextSameDigits.f
      refine ev_bind (leNumber_eq _) (ev_pos (okL h) (Ev.bind (leList_ev n h) ?_))
      exact Ev.bind (turn_some true (dI n) t' (by omega) hs) (ev_pos rfl (Ev.bind (leOf_ev t' hz hg) (ev_eq fun _ => rfl)))
theorem bt_strs0 (x : Int) (B : List Int) (h : digL (x :: B)) : bt (strOfNums ((x :: B).map (48 + ·))) 0 = 48 + x := by
  have := bt_at' (strOfNums ((x :: B).map (48 + ·))) _ (bytes_strs (x :: B) h) 0 (by simp)
  exact this
theorem last_ev (n : Nat) (h : n ≤ 1000000000000) : ∃ o : Int × Bool, Ev (fun k => impl_LastSameDigits.f k (n : Int)) o ∧ Ev (fun k => spec_LastSameDigits.f k (n : Int)) o ∧ ((o = (0, false) ∧ ∀ t', Stp true (dI n) t' → ¬ lead t') ∨ ∃ t', Stp true (dI n) t' ∧ lead t' ∧ o = (val 0 t', true)) := by
  have hl := dI_len13 h
  have hp : 0 < (dI n).length := by rw [dI_len]; exact dgs_pos n
  rcases stp_or true (dI n) with hd | ⟨t', hs⟩
  · refine ⟨(0, false), ?_, ?_, .inl ⟨rfl, fun t' hs _ => dn_no hd hs⟩⟩
    · unfold impl_LastSameDigits.f
      refine ev_bind (isLeast_eq _) (ev_pos (okL h) (ev_bind (itoa_ev n (by omega)) ?_))
      exact ev_bind (step_none true _ (dI n) (bytesOf_itoa n) (itoa_bytes n) hp (by omega) hd) (ev_neg (by simp) (ev_eq fun _ => rfl))
    · unfold spec_LastSameDigits.f
      refine ev_bind (leNumber_eq _) (ev_pos (okL h) (Ev.bind (leList_ev n h) ?_))
      exact Ev.bind (turn_none false (dI n) (by omega) hd) (ev_neg (by simp) (ev_eq fun _ => rfl))
  · have hg := stp_dig hs (dI_range n)
    have hz : t'.length ≤ 13 := by rw [stp_len hs]; exact hl
    have h2 := stp_two hs
    have hlen := stp_len hs
    obtain ⟨x, B, rfl⟩ : ∃ x B, t' = x :: B := by
      cases t' with
      | nil => simp at hlen; omega
      | cons x B => exact ⟨x, B, rfl⟩
    have hB : B ≠ [] := by rintro rfl; simp at hlen; omega
    have hsz : (strOfNums ((x :: B).map (48 + ·))).size = (x :: B).length := strs_size _
    have hr0 : rd (x :: B) 0 = x := rfl
    by_cases c : x = 0
    · refine ⟨(0, false), ?_, ?_, .inl ⟨rfl, ?_⟩⟩
      · unfold impl_LastSameDigits.f
        refine ev_bind (isLeast_eq _) (ev_pos (okL h) (ev_bind (itoa_ev n (by omega)) ?_))
        refine ev_bind (step_some true _ (dI n) (x :: B) (bytesOf_itoa n) (itoa_bytes n) (by omega) hs) (ev_pos rfl ?_)
        refine ev_pos (by dsimp only; rw [hsz, hlen]; omega) (ev_pos ?_ (ev_eq fun _ => rfl))
        rw [bt_strs0 x B hg]; omega
      · unfold spec_LastSameDigits.f
        refine ev_bind (leNumber_eq _) (ev_pos (okL h) (Ev.bind (leList_ev n h) ?_))
        exact Ev.bind (turn_some false (dI n) (x :: B) (by omega) hs) (ev_pos rfl (ev_pos (by dsimp only; rw [hlen]; omega) (ev_pos (by dsimp only; rw [hr0]; exact c) (ev_eq fun _ => rfl))))
      · intro u hu hlu
        have := stp_uniq hu hs
        subst this
        obtain ⟨y, D, e, hy⟩ := hlu
        rw [List.cons.injEq] at e
        obtain ⟨rfl, rfl⟩ := e
        rcases hy with hy | hy
        · exact hy c
        · exact hB hy
    · refine ⟨(val 0 (x :: B), true), ?_, ?_, .inr ⟨x :: B, hs, ⟨x, B, rfl, .inl c⟩, rfl⟩⟩
      · unfold impl_LastSameDigits.f
        refine ev_bind (isLeast_eq _) (ev_pos (okL h) (ev_bind (itoa_ev n (by omega)) ?_))
        refine ev_bind (step_some true _ (dI n) (x :: B) (bytesOf_itoa n) (itoa_bytes n) (by omega) hs) (ev_pos rfl ?_)
        refine ev_pos (by dsimp only; rw [hsz, hlen]; omega) (ev_neg ?_ (Ev.bind (numberOf_ev _ hz hg) (ev_eq fun _ => rfl)))
        rw [bt_strs0 x B hg]; omega
      · unfold spec_LastSameDigits.f
        refine ev_bind (leNumber_eq _) (ev_pos (okL h) (Ev.bind (leList_ev n h) ?_))
        exact Ev.bind (turn_some false (dI n) (x :: B) (by omega) hs) (ev_pos rfl (ev_pos (by dsimp only; rw [hlen]; omega) (ev_neg (by dsimp only; rw [hr0]; exact c) (Ev.bind (leOf_ev _ hz hg) (ev_eq fun _ => rfl)))))

/-! ### how often each digit is in a number -/
def inc := laws_iDigits.inc
theorem inc_map (g : Nat → Int) (d : Int) (hd : 0 ≤ d ∧ d ≤ 9) (hg : ∀ i, 0 ≤ g i ∧ g i ≤ 1000) : inc ((List.range 10).map g) d = (List.range 10).map (fun i => g i + if (i : Int) = d then 1 else 0) := by
  unfold inc laws_iDigits.inc
  have e : ((List.range 10).map g)[d.toNat]?.getD 0 = g d.toNat := by
    rw [List.getElem?_eq_getElem (by simp; omega)]; simp
  rw [e, wrap_of (by have := hg d.toNat; omega) (by have := hg d.toNat; omega)]
  apply List.ext_getElem
  · simp
  · intro i h1 h2
    have h3 : i < 10 := by simpa using h2
    rw [List.getElem_set]
    by_cases c : d.toNat = i
    · rw [if_pos c]
      simp only [List.getElem_map, List.getElem_range]
      rw [if_pos (by omega), c]
    · rw [if_neg c]
      simp only [List.getElem_map, List.getElem_range]
      rw [if_neg (by omega), Int.add_zero]
theorem inc_fold : ∀ (u : List Int) (g : Nat → Int) (m : Nat), digL u → (∀ i, 0 ≤ g i ∧ g i ≤ (m : Int)) → m + u.length ≤ 1000 → u.foldl inc ((List.range 10).map g) = (List.range 10).map (fun i => g i + (u.count (i : Int) : Int)) := by
  intro u
  induction u with
  | nil => intro g m _ _ _; simp
  | cons x u ih =>
    intro g m hd hg hm
    rw [List.foldl_cons, inc_map g x (hd x List.mem_cons_self) (fun i => by have := hg i; simp at hm; omega)]
    rw [ih _ (m + 1) (fun y hy => hd y (List.mem_cons_of_mem _ hy)) (fun i => by have := hg i; split <;> omega) (by simp at hm; omega)]
    apply List.map_congr_left
    intro i _
    rw [List.count_cons]
    by_cases c : (i : Int) = x
    · rw [if_pos c, if_pos (by simpa using c.symm)]; omega
    · rw [if_neg c, if_neg (by simpa using fun q => c q.symm)]; omega
def z10 : List Int := [0, 0, 0, 0, 0, 0, 0, 0, 0, 0]
theorem fold_perm {u v : List Int} (hu : digL u) (hp : v.Perm u) (hl : u.length ≤ 100) : v.foldl inc z10 = u.foldl inc z10 := by
  have e : z10 = (List.range 10).map (fun _ => (0 : Int)) := rfl
  have hv : digL v := fun x hx => hu x (hp.mem_iff.mp hx)
  rw [e, inc_fold u _ 0 hu (fun _ => by omega) (by omega), inc_fold v _ 0 hv (fun _ => by omega) (by rw [hp.length_eq]; omega)]
  apply List.map_congr_left
  intro i _
  rw [hp.count_eq]
theorem idig_loop : ∀ (m : Nat) (l : List Int), m ≤ 10000000000000 → Ev (fun k => laws_iDigits.l0 k l (m : Int)) (if m = 0 then l else (dI m).reverse.foldl inc l) := by
  intro m
  induction m using Nat.strongRecOn with
  | _ m ih =>
    intro l hm
    refine ev_succ ?_
    simp only [laws_iDigits.l0]
    by_cases c : m = 0
    · rw [if_pos c]; exact ev_neg (by omega) (ev_eq fun _ => rfl)
    · rw [if_neg c]
      refine ev_pos (by omega) ?_
      have e1 : Int.tmod (m : Int) 10 = ((m % 10 : Nat) : Int) := by rw [Int.tmod_eq_emod_of_nonneg (by omega)]; omega
      have e2 : wrap64 (Int.tdiv (m : Int) 10) = ((m / 10 : Nat) : Int) := by rw [Int.tdiv_eq_ediv_of_nonneg (by omega), wrap_of (by omega) (by omega)]; omega
      rw [e1, e2]
      have h := ih (m / 10) (by omega) (laws_iDigits.inc l ((m % 10 : Nat) : Int)) (by omega)
      by_cases c2 : m < 10
      · rw [if_pos (by omega)] at h
        rw [dI_small c2]
        rw [show m % 10 = m by omega] at h ⊢
        exact h
      · rw [if_neg (by omega)] at h
        rw [dI_big c2, List.reverse_append]
        exact h
theorem idig_ev (m : Nat) (hm : m ≤ 10000000000000) : Ev (fun k => laws_iDigits.f k (m : Int)) ((dI m).reverse.foldl inc z10) := by
  unfold laws_iDigits.f
  refine ev_pos (by omega) ?_
  have e1 : Int.tmod (m : Int) 10 = ((m % 10 : Nat) : Int) := by rw [Int.tmod_eq_emod_of_nonneg (by omega)]; omega
  have e2 : wrap64 (Int.tdiv (m : Int) 10) = ((m / 10 : Nat) : Int) := by rw [Int.tdiv_eq_ediv_of_nonneg (by omega), wrap_of (by omega) (by omega)]; omega
  rw [e1, e2]
  have h := idig_loop (m / 10) (laws_iDigits.inc z10 ((m % 10 : Nat) : Int)) (by omega)
  by_cases c2 : m < 10
  · rw [if_pos (by omega)] at h
    rw [dI_small c2]
    rw [show m % 10 = m by omega] at h ⊢
    exact h
  · rw [if_neg (by omega)] at h
    rw [dI_big c2, List.reverse_append]
    exact h
/-- Numbers with the same digits. -/
theorem idig_same (n : Nat) (hn : n ≤ 1000000000000) (t : List Int) (hd : digL t) (hl : lead t) (hp : t.Perm (dI n)) : Ev (fun k => laws_iDigits.f k (val 0 t)) ((dI n).reverse.foldl inc z10) := by
  have hlen : t.length ≤ 13 := by rw [hp.length_eq]; exact dI_len13 hn
  have hv := val_small t hlen hd
  obtain ⟨m, hm⟩ : ∃ m : Nat, val 0 t = (m : Int) := ⟨(val 0 t).toNat, by omega⟩
  have he : dI m = t := by have := dI_val hd hl; rw [hm, Int.toNat_natCast] at this; exact this
  have h := idig_ev m (by omega)
  rw [he, fold_perm (u := (dI n).reverse) (fun x hx => dI_range n x (List.mem_reverse.mp hx)) ((List.reverse_perm t).trans (hp.trans (List.reverse_perm (dI n)).symm)) (by rw [List.length_reverse]; have := dI_len13 hn; omega)] at h
  rw [hm]; exact h

/-! ### what is left of a number when its digits are taken together again and again -/
def rt (f : Nat → Nat) (n : Nat) : Nat × Nat := if h : 10 ≤ n ∧ f n < n then ((rt f (f n)).1, (rt f (f n)).2 + 1) else (n, 0)
termination_by n
decreasing_by exact h.2
theorem rt_small (f : Nat → Nat) {n : Nat} (h : n < 10) : rt f n = (n, 0) := by rw [rt, dif_neg (by omega)]
theorem rt_step (f : Nat → Nat) {n : Nat} (h : 10 ≤ n) (hf : f n < n) : rt f n = ((rt f (f n)).1, (rt f (f n)).2 + 1) := by rw [rt, dif_pos ⟨h, hf⟩]
theorem rt_facts (f : Nat → Nat) (hf : ∀ n, 10 ≤ n → f n < n) (n : Nat) : (rt f n).1 ≤ 9 ∧ (rt f n).2 ≤ n ∧ ((rt f n).2 = 0 ↔ n < 10) := by
  induction n using Nat.strongRecOn with
  | _ n ih =>
    by_cases h : n < 10
    · rw [rt_small f h]; simp; omega
    · have hl := hf n (by omega)
      obtain ⟨h1, h2, _⟩ := ih (f n) hl
      rw [rt_step f (by omega) hl]
      dsimp only
      omega
/-- a function taken again and again -/
theorem until_go (g : Nat → Int → Option Int) (F : Nat → Nat) (N : Nat) (hN : N ≤ 10000000000000) (hg : ∀ m, m ≤ N → Ev (fun k => g k (m : Int)) ((F m : Nat) : Int)) (hF : ∀ m, 10 ≤ m → F m < m) :
    ∀ n, n ≤ N → ∃ K, ∀ k c t : Nat, K ≤ k → K ≤ c → t ≤ 20000000000000 → t + n ≤ 20000000000000 → impl_untilOne.go (g k) c (n : Int) (t : Int) = some (((rt F n).1 : Int), ((t + (rt F n).2 : Nat) : Int)) := by
  intro n
  induction n using Nat.strongRecOn with
  | _ n ih =>
    intro hn
    by_cases h : n < 10
    · refine ⟨1, fun k c t _ hc _ _ => ?_⟩
      obtain ⟨c, rfl⟩ : ∃ q, c = q + 1 := ⟨c - 1, by omega⟩
      rw [impl_untilOne.go, if_neg (by omega), rt_small F h]; simp
    · have hl := hF n (by omega)
      obtain ⟨K1, h1⟩ := hg n hn
      obtain ⟨K2, h2⟩ := ih (F n) hl (by omega)
      refine ⟨max K1 (K2 + 1), fun k c t hk hc ht ht2 => ?_⟩
      obtain ⟨c, rfl⟩ : ∃ q, c = q + 1 := ⟨c - 1, by omega⟩
      have h3 := h1 k (by omega)
      dsimp only at h3
      rw [impl_untilOne.go, if_pos (by omega), h3, Option.bind_some, wrap_nat (by omega), h2 k c (t + 1) (by omega) (by omega) (by omega) (by omega), rt_step F (by omega) hl]
      dsimp only
      rw [show t + 1 + (rt F (F n)).2 = t + ((rt F (F n)).2 + 1) by omega]
theorem until_ev (g : Nat → Int → Option Int) (F : Nat → Nat) (N : Nat) (hN : N ≤ 10000000000000) (hg : ∀ m, m ≤ N → Ev (fun k => g k (m : Int)) ((F m : Nat) : Int)) (hF : ∀ m, 10 ≤ m → F m < m) (n : Nat) (hn : n ≤ N) :
    Ev (fun k => impl_untilOne.go (g k) k (n : Int) 0) (((rt F n).1 : Int), ((rt F n).2 : Int)) := by
  obtain ⟨K, h⟩ := until_go g F N hN hg hF n hn
  refine ev_from K (fun k hk => ?_)
  have := h k k 0 hk hk (by omega) (by omega)
  rw [Nat.zero_add] at this
  exact this

/-! ### products of digits, both sides -/
def prL (l : List Int) : Int := l.foldl (· * ·) 1
theorem prL_snoc (l : List Int) (x : Int) : prL (l ++ [x]) = prL l * x := by unfold prL; rw [List.foldl_append]; rfl
theorem prL_take (l : List Int) (i : Nat) (h : i < l.length) : prL (l.take (i + 1)) = prL (l.take i) * l[i] := by rw [List.take_succ_eq_append_getElem h, prL_snoc]
theorem p9 (k : Nat) : (1 : Int) ≤ 9 ^ k := by
  induction k with
  | zero => decide
  | succ k ih => rw [Int.pow_succ]; omega
theorem p9le (k : Nat) (h : k ≤ 13) : (9 : Int) ^ k ≤ 2541865828329 := by
  have e : (9 : Int) ^ k = ((9 ^ k : Nat) : Int) := by simp
  rw [e]
  have := Nat.pow_le_pow_right (n := 9) (by decide) h
  omega
theorem prL_bound (l : List Int) (hd : digL l) : 0 ≤ prL l ∧ prL l ≤ 9 ^ l.length := by
  have : ∀ (n : Nat) (l : List Int), l.length = n → digL l → 0 ≤ prL l ∧ prL l ≤ 9 ^ l.length := by
    intro n
    induction n with
    | zero => intro l hl _; have := List.eq_nil_of_length_eq_zero hl; subst this; simp [prL]
    | succ n ih =>
      intro l hl hd
      rcases List.eq_nil_or_concat l with rfl | ⟨m, e, rfl⟩
      · simp at hl
      · rw [List.concat_eq_append] at hl hd ⊢
        obtain ⟨h1, h2⟩ := ih m (by simpa using hl) (fun x hx => hd x (by simp [hx]))
        have he := hd e (by simp)
        rw [prL_snoc, List.length_append, List.length_singleton, Int.pow_succ]
        exact ⟨Int.mul_nonneg h1 he.1, Int.mul_le_mul h2 he.2 he.1 (by have := p9 m.length; omega)⟩
  exact this l.length l rfl hd
theorem digL_take {l : List Int} (h : digL l) (i : Nat) : digL (l.take i) := fun x hx => h x (List.mem_of_mem_take hx)
theorem iprod_ev (n : Nat) (hn : n ≤ 1000000000000) : Ev (fun k => impl_digitProduct.f k (n : Int)) (prL (dI n)) := by
  have hl := dI_len13 hn
  have hd := dI_range n
  have go : ∀ (e i : Nat), i + e = (dI n).length → Ev (fun k => impl_digitProduct.l0 k ((dI n).map (48 + ·)) (prL ((dI n).take i)) (i : Int)) (prL (dI n)) := by
    intro e
    induction e with
    | zero =>
      intro i hi
      refine ev_succ ?_
      simp only [impl_digitProduct.l0, List.length_map]
      refine ev_neg (by omega) (ev_eq fun _ => ?_)
      rw [List.take_of_length_le (by omega)]
    | succ e ih =>
      intro i hi
      have hlt : i < (dI n).length := by omega
      refine ev_succ ?_
      simp only [impl_digitProduct.l0, List.length_map]
      rw [rd_map48 _ _ hlt, rd_at _ _ hlt, wrap_nat (by omega)]
      have hx := hd _ (List.getElem_mem hlt)
      have hb := prL_bound ((dI n).take (i + 1)) (digL_take hd _)
      have h9 := p9le ((dI n).take (i + 1)).length (by have := List.length_take_le (i + 1) (dI n); omega)
      rw [prL_take _ _ hlt] at hb
      have e1 : (48 + (dI n)[i] - 48) % 256 = (dI n)[i] := by omega
      rw [e1, wrap_of (by omega) (by omega), ← prL_take _ _ hlt]
      exact ev_pos (by omega) (ev_pos (by omega) (ih (i + 1) (by omega)))
  unfold impl_digitProduct.f
  refine ev_bind (itoa_ev n (by omega)) (ev_pos (by rw [itoa_bytes]; omega) ?_)
  rw [bytesOf_itoa]
  exact go (dI n).length 0 (by omega)
theorem sprod_ev (n : Nat) (hn : n ≤ 1000000000000) : Ev (fun k => spec_leProduct.f k (n : Int)) (prL (dI n)) := by
  have hl := dI_len13 hn
  have hd := dI_range n
  have go : ∀ (e i : Nat), i + e = (dI n).length → Ev (fun k => spec_leProduct.l0 k (prL ((dI n).take i)) (dI n) ((dI n).length : Int) (i : Int)) (prL (dI n)) := by
    intro e
    induction e with
    | zero =>
      intro i hi
      refine ev_succ ?_
      simp only [spec_leProduct.l0]
      refine ev_neg (by omega) (ev_eq fun _ => ?_)
      rw [List.take_of_length_le (by omega)]
    | succ e ih =>
      intro i hi
      have hlt : i < (dI n).length := by omega
      refine ev_succ ?_
      simp only [spec_leProduct.l0]
      rw [rd_at _ _ hlt, wrap_nat (by omega)]
      have hb := prL_bound ((dI n).take (i + 1)) (digL_take hd _)
      have h9 := p9le ((dI n).take (i + 1)).length (by have := List.length_take_le (i + 1) (dI n); omega)
      rw [prL_take _ _ hlt] at hb
      rw [wrap_of (by omega) (by omega), ← prL_take _ _ hlt]
      exact ev_pos (by omega) (ev_pos (by omega) (ev_pos (by omega) (ih (i + 1) (by omega))))
  unfold spec_leProduct.f
  exact Ev.bind (leList_ev n hn) (go (dI n).length 0 (by omega))
def prN (n : Nat) : Nat := (prL (dI n)).toNat
theorem prN_eq (n : Nat) : ((prN n : Nat) : Int) = prL (dI n) := by unfold prN; have := (prL_bound (dI n) (dI_range n)).1; omega
theorem prL_val : ∀ (n : Nat) (l : List Int), l.length = n → digL l → prL l ≤ val 0 l ∨ l.length = 0 := by
  intro n
  induction n with
  | zero => intro l hl _; exact .inr hl
  | succ n ih =>
    intro l hl hd
    left
    rcases List.eq_nil_or_concat l with rfl | ⟨m, e, rfl⟩
    · simp at hl
    · rw [List.concat_eq_append] at hl hd ⊢
      have hm : digL m := fun x hx => hd x (by simp [hx])
      have he := hd e (by simp)
      rw [prL_snoc, val_snoc]
      rcases ih m (by simpa using hl) hm with h | h
      · have h0 := (prL_bound m hm).1
        have : prL m * e ≤ prL m * 9 := Int.mul_le_mul_of_nonneg_left he.2 h0
        omega
      · have := List.eq_nil_of_length_eq_zero h
        subst this
        simp [prL, val]
theorem prN_lt (n : Nat) (h : 10 ≤ n) : prN n < n := by
  have e := prN_eq n
  rw [dI_big (by omega), prL_snoc] at e
  have hv := val_dI (n / 10)
  have hb := prL_bound (dI (n / 10)) (dI_range _)
  have h1 := prL_val _ (dI (n / 10)) rfl (dI_range _)
  have hp : 0 < (dI (n / 10)).length := by rw [dI_len]; exact dgs_pos _
  have h2 : prL (dI (n / 10)) ≤ ((n / 10 : Nat) : Int) := by rcases h1 with h1 | h1 <;> omega
  have h3 : prL (dI (n / 10)) * ((n % 10 : Nat) : Int) ≤ prL (dI (n / 10)) * 9 := Int.mul_le_mul_of_nonneg_left (by omega) hb.1
  omega
theorem iPOD_ev (n : Nat) (h : n ≤ 1000000000000) : Ev (fun k => impl_ProductOfDigits.f k (n : Int)) ((prN n : Int), true) := by
  unfold impl_ProductOfDigits.f impl_DigitProduct.f impl_isWritten.f
  rw [within_eq, prN_eq]
  simp only [Option.bind_some]
  refine Ev.bind (a := (prL (dI n), true)) (ev_pos (okL h) (Ev.bind (iprod_ev n h) (ev_eq fun _ => rfl))) (ev_eq fun _ => rfl)
theorem sPOD_ev (n : Nat) (h : n ≤ 1000000000000) : Ev (fun k => spec_ProductOfDigits.f k (n : Int)) ((prN n : Int), true) := by
  unfold spec_ProductOfDigits.f
  rw [prN_eq]
  exact ev_bind (leNumber_eq _) (ev_pos (okL h) (Ev.bind (sprod_ev n h) (ev_eq fun _ => rfl)))
theorem iPS_ev (n : Nat) (h : n ≤ 1000000000000) : Ev (fun k => impl_ProductSteps.f k (n : Int)) (((rt prN n).2 : Int), true) := by
  unfold impl_ProductSteps.f impl_ProductEnd.f impl_isWritten.f
  rw [within_eq]
  simp only [Option.bind_some]
  refine Ev.bind (a := (((rt prN n).1 : Int), ((rt prN n).2 : Int), true)) (ev_pos (okL h) (Ev.bind (until_ev (fun k x => impl_digitProduct.f k x) prN 1000000000000 (by omega) (fun m hm => ?_) prN_lt n h) (ev_eq fun _ => rfl))) (ev_eq fun _ => rfl)
  rw [prN_eq]
  exact iprod_ev m hm
theorem sPS_loop : ∀ n : Nat, n ≤ 1000000000000 → ∀ t : Nat, t ≤ 2000000000000 → t + n ≤ 2000000000000 → Ev (fun k => spec_ProductSteps.l0 k (n : Int) (t : Int)) (((t + (rt prN n).2 : Nat) : Int), true) := by
  intro n
  induction n using Nat.strongRecOn with
  | _ n ih =>
    intro hn t ht ht2
    refine ev_succ ?_
    simp only [spec_ProductSteps.l0]
    by_cases h : n < 10
    · rw [rt_small prN h]
      exact ev_neg (by omega) (ev_eq fun _ => by simp)
    · have hl := prN_lt n (by omega)
      have hs := sprod_ev n hn
      rw [← prN_eq] at hs
      refine ev_pos (by omega) (Ev.bind hs ?_)
      rw [wrap_nat (by omega), rt_step prN (by omega) hl]
      have h2 := ih (prN n) hl (by omega) (t + 1) (by omega) (by omega)
      dsimp only
      rw [show t + ((rt prN (prN n)).2 + 1) = t + 1 + (rt prN (prN n)).2 by omega]
      exact h2
theorem sPS_ev (n : Nat) (h : n ≤ 1000000000000) : Ev (fun k => spec_ProductSteps.f k (n : Int)) (((rt prN n).2 : Int), true) := by
  unfold spec_ProductSteps.f
  refine ev_bind (leNumber_eq _) (ev_pos (okL h) ?_)
  have := sPS_loop n h 0 (by omega) (by omega)
  rw [Nat.zero_add] at this
  exact this

/-! ### lists of digits that do not fall: sums, products, numbers -/
def asc : Nat → List Nat → Prop
  | _, [] => True
  | lo, d :: l => lo ≤ d ∧ d ≤ 9 ∧ asc d l
def lsN : List Nat → Nat
  | [] => 0
  | d :: l => d + lsN l
def lpN : List Nat → Nat
  | [] => 1
  | d :: l => d * lpN l
def numL (n : Nat) : List Nat → Nat
  | [] => n
  | d :: l => numL (10 * n + d) l
theorem numL_eq (l : List Nat) : ∀ n, numL n l = n * 10 ^ l.length + numL 0 l := by
  induction l with
  | nil => intro n; simp [numL]
  | cons d l ih =>
    intro n
    simp only [numL, List.length_cons]
    rw [ih (10 * n + d), ih (10 * 0 + d), Nat.pow_succ, Nat.add_mul, Nat.add_mul]
    rw [show 10 * n * 10 ^ l.length = n * (10 ^ l.length * 10) by rw [Nat.mul_comm 10 n, Nat.mul_assoc, Nat.mul_comm 10]]
    omega
theorem numL_lt (l : List Nat) : ∀ lo, asc lo l → numL 0 l < 10 ^ l.length := by
  induction l with
  | nil => intro lo _; simp [numL]
  | cons d l ih =>
    intro lo h
    simp only [numL, List.length_cons]
    have h1 := ih d h.2.2
    have h2 := h.2.1
    rw [numL_eq, Nat.pow_succ]
    have h3 := Nat.mul_le_mul_right (10 ^ l.length) (show 10 * 0 + d ≤ 9 by omega)
    omega
theorem asc_sum (l : List Nat) : ∀ lo, asc lo l → lo * l.length ≤ lsN l := by
  induction l with
  | nil => intro lo _; simp [lsN]
  | cons d l ih =>
    intro lo h
    have h1 := ih d h.2.2
    have h2 := Nat.mul_le_mul_right l.length h.1
    simp only [lsN, List.length_cons, Nat.mul_succ]
    have := h.1
    omega
theorem asc_mono {l : List Nat} {lo lo' : Nat} (h : asc lo l) (hl : lo' ≤ lo) : asc lo' l := by
  cases l with
  | nil => trivial
  | cons d l => exact ⟨Nat.le_trans hl h.1, h.2⟩
theorem w_divd (p d q : Nat) (hq : q = p / d) (hp : q ≤ 1000000000000) : wrap64 (Int.tdiv (p : Int) (d : Int)) = (q : Int) := by
  rw [Int.tdiv_eq_ediv_of_nonneg (Int.natCast_nonneg p), ← Int.natCast_ediv, ← hq]
  exact wrap_of (by omega) (by omega)
theorem w_modd (p d : Nat) : Int.tmod (p : Int) (d : Int) = ((p % d : Nat) : Int) := by rw [Int.tmod_eq_emod_of_nonneg (Int.natCast_nonneg p), Int.natCast_emod]

/-! ### the program's search -/
def toI (l : List Nat) : List Int := l.map (fun d : Nat => (d : Int))
def chs (l : List Nat) : List Int := (toI l).map (48 + ·)
theorem chs_append (a b : List Nat) : chs (a ++ b) = chs a ++ chs b := by simp [chs, toI]
theorem asc_all (l : List Nat) : ∀ lo, asc lo l → l.Pairwise (· ≤ ·) ∧ ∀ x ∈ l, lo ≤ x ∧ x ≤ 9 := by
  induction l with
  | nil => intro lo _; exact ⟨List.Pairwise.nil, by simp⟩
  | cons d l ih =>
    intro lo h
    obtain ⟨h1, h2⟩ := ih d h.2.2
    refine ⟨List.pairwise_cons.mpr ⟨fun x hx => (h2 x hx).1, h1⟩, fun x hx => ?_⟩
    rcases List.mem_cons.mp hx with e | e
    · rw [e]; exact ⟨h.1, h.2.1⟩
    · have := h2 x e; have := h.1; omega
theorem asc_of (l : List Nat) : ∀ lo, l.Pairwise (· ≤ ·) → (∀ x ∈ l, lo ≤ x ∧ x ≤ 9) → asc lo l := by
  induction l with
  | nil => intro lo _ _; trivial
  | cons d l ih =>
    intro lo h1 h2
    obtain ⟨h3, h4⟩ := List.pairwise_cons.mp h1
    have hd := h2 d (List.mem_cons_self ..)
    exact ⟨hd.1, hd.2, ih d h4 (fun x hx => ⟨h3 x hx, (h2 x (List.mem_cons_of_mem _ hx)).2⟩)⟩
theorem val_numL (l : List Nat) : ∀ a : Nat, val (a : Int) (toI l) = (numL a l : Int) := by
  induction l with
  | nil => intro a; rfl
  | cons d l ih =>
    intro a
    have := ih (10 * a + d)
    simp only [toI, List.map_cons, val, List.foldl_cons, numL] at this ⊢
    rw [show 10 * (a : Int) + (d : Int) = ((10 * a + d : Nat) : Int) by omega]
    exact this
theorem sorted_chs (l m : List Nat) (hp : l.Perm m) (hm : m.Pairwise (· ≤ ·)) : SortB.sorted (chs l) = chs m := by
  have hs1 : (SortB.sorted (chs l)).Pairwise (· ≤ ·) := by
    have := List.pairwise_mergeSort (le := fun (x y : Int) => decide (x ≤ y)) (fun a b c h1 h2 => by simp at *; omega) (fun a b => by simp; omega) (chs l)
    exact this.imp (fun {a b} h => by simpa using h)
  have hs2 : (chs m).Pairwise (· ≤ ·) := by
    unfold chs toI
    rw [List.map_map]
    exact List.pairwise_map.mpr (hm.imp (fun {a b} h => by simp; omega))
  have hp2 : (SortB.sorted (chs l)).Perm (chs m) := (List.mergeSort_perm _ _).trans ((hp.map _).map _)
  exact hp2.eq_of_pairwise (fun a b _ _ h1 h2 => by omega) hs1 hs2
/-- the row of a search's way: its digits fall -/
def dsOf (r : List Nat) : List Int := chs r.reverse
theorem dsOf_cons (d : Nat) (r : List Nat) : dsOf (d :: r) = dsOf r ++ [48 + (d : Int)] := by
  unfold dsOf; rw [List.reverse_cons, chs_append]; rfl
theorem dsOf_len (r : List Nat) : (dsOf r).length = r.length := by simp [dsOf, chs, toI]
theorem lsN_append (a b : List Nat) : lsN (a ++ b) = lsN a + lsN b := by
  induction a with
  | nil => simp [lsN]
  | cons x a ih => simp only [List.cons_append, lsN, ih]; omega
theorem lpN_append (a b : List Nat) : lpN (a ++ b) = lpN a * lpN b := by
  induction a with
  | nil => simp [lpN]
  | cons x a ih => simp only [List.cons_append, lpN, ih, Nat.mul_assoc]
theorem ones_sum (n : Nat) : lsN (List.replicate n 1) = n ∧ lpN (List.replicate n 1) = 1 := by
  induction n with
  | zero => exact ⟨rfl, rfl⟩
  | succ n ih => rw [List.replicate_succ]; exact ⟨by simp only [lsN, ih.1]; omega, by simp only [lpN, ih.2]⟩
theorem ones_asc (n : Nat) (r : List Nat) (h : asc 2 r) : asc 1 (List.replicate n 1 ++ r) := by
  induction n with
  | zero => exact asc_mono h (by omega)
  | succ n ih => rw [List.replicate_succ, List.cons_append]; exact ⟨Nat.le_refl _, by omega, ih⟩
theorem asL_ev (r : List Nat) (s : Nat) (h : asc 2 r) : Ev (fun k => impl_asLeast.f k (dsOf r ++ List.replicate s 49)) (if (List.replicate s 1 ++ r).length > 12 then (0, false) else ((numL 0 (List.replicate s 1 ++ r) : Int), true)) := by
  have e : dsOf r ++ List.replicate s 49 = chs (r.reverse ++ List.replicate s 1) := by
    rw [chs_append]; simp [dsOf, chs, toI]
  have hlen : (chs (r.reverse ++ List.replicate s 1)).length = (List.replicate s 1 ++ r).length := by simp [chs, toI]; omega
  have ha := ones_asc s r h
  obtain ⟨a1, a2⟩ := asc_all _ 1 ha
  have hs := sorted_chs (r.reverse ++ List.replicate s 1) (List.replicate s 1 ++ r) (List.perm_append_comm.trans ((List.reverse_perm r).append_left _)) a1
  unfold impl_asLeast.f
  rw [e, hs, hlen]
  by_cases c : (List.replicate s 1 ++ r).length > 12
  · rw [if_pos c]; exact ev_pos c (ev_eq fun _ => rfl)
  · rw [if_neg c]
    refine ev_neg c ?_
    have hn := numberOf_ev (toI (List.replicate s 1 ++ r)) (by simp only [toI, List.length_map]; omega) (fun d hd => by
      obtain ⟨x, hx, rfl⟩ := List.mem_map.mp hd
      have := a2 x hx; omega)
    have hv := val_numL (List.replicate s 1 ++ r) 0
    rw [show ((0 : Nat) : Int) = 0 from rfl] at hv
    rw [hv] at hn
    exact Ev.bind hn (ev_eq fun _ => rfl)

/-! ### digits with a product: the fewest, in order, make the least number -/
theorem numL_app (A X : List Nat) : ∀ n, numL n (A ++ X) = numL (numL n A) X := by
  induction A with
  | nil => intro n; rfl
  | cons d A ih => intro n; exact ih _
theorem numL_mono (l : List Nat) : ∀ {n m : Nat}, n ≤ m → numL n l ≤ numL m l := by
  induction l with
  | nil => intro n m h; exact h
  | cons d l ih => intro n m h; exact ih (by omega)
theorem numL_snoc (l : List Nat) (n e : Nat) : numL n (l ++ [e]) = 10 * numL n l + e := by rw [numL_app]; rfl
def okD (l : List Nat) : Prop := ∀ x ∈ l, 1 ≤ x ∧ x ≤ 9
theorem numL_up (l : List Nat) (h : okD l) : numL 0 l < 10 ^ l.length := by
  induction l with
  | nil => simp [numL]
  | cons d l ih =>
    have h1 := h d List.mem_cons_self
    have h2 := ih (fun x hx => h x (List.mem_cons_of_mem _ hx))
    rw [numL, numL_eq, List.length_cons, Nat.pow_succ]
    have : (10 * 0 + d) * 10 ^ l.length ≤ 9 * 10 ^ l.length := Nat.mul_le_mul_right _ (by omega)
    omega
theorem numL_lo (d u : Nat) (l : List Nat) (h : u ≤ d) : u * 10 ^ l.length ≤ numL 0 (d :: l) := by
  rw [numL, numL_eq]
  have : u * 10 ^ l.length ≤ (10 * 0 + d) * 10 ^ l.length := Nat.mul_le_mul_right _ (by omega)
  omega
theorem num_ins (B : List Nat) (e : Nat) (h : ∀ x ∈ B, e ≤ x) : ∀ n, numL n (e :: B) ≤ numL n (B ++ [e]) := by
  induction B with
  | nil => intro n; exact Nat.le_refl _
  | cons y B ih =>
    intro n
    have hy := h y List.mem_cons_self
    have h1 := ih (fun x hx => h x (List.mem_cons_of_mem _ hx)) (10 * n + y)
    refine Nat.le_trans ?_ h1
    simp only [numL]
    exact numL_mono B (by omega)
/-- A digit set at its place makes no more than behind all. -/
theorem num_place (A B : List Nat) (e : Nat) (h : ∀ x ∈ B, e ≤ x) : numL 0 (A ++ e :: B) ≤ 10 * numL 0 (A ++ B) + e := by
  rw [← numL_snoc, List.append_assoc, numL_app, numL_app]
  exact num_ins B e h _
theorem num_short (X O : List Nat) (e : Nat) (hX : okD X) (hO : okD O) (hl : X.length ≤ O.length) (h0 : O ≠ []) : numL 0 X ≤ 10 * numL 0 O + e := by
  cases O with
  | nil => exact absurd rfl h0
  | cons d O =>
    have h1 := numL_up X hX
    have h2 := numL_lo d 1 O (hO d List.mem_cons_self).1
    have h3 : 10 ^ X.length ≤ 10 ^ (O.length + 1) := Nat.pow_le_pow_right (by omega) hl
    rw [Nat.pow_succ] at h3
    omega
theorem num_lead (u e : Nat) (X O : List Nat) (hX : okD X) (hO : ∀ x ∈ O, u + 1 ≤ x) (hl : X.length = O.length) (h0 : O ≠ []) : numL 0 (u :: X) ≤ 10 * numL 0 O + e := by
  cases O with
  | nil => exact absurd rfl h0
  | cons d O =>
    have h1 := numL_up X hX
    have h2 := numL_lo d (u + 1) O (hO d List.mem_cons_self)
    have h3 : numL 0 (u :: X) = u * 10 ^ X.length + numL 0 X := by rw [numL, numL_eq]; simp
    rw [hl, List.length_cons, Nat.pow_succ] at h1 h3
    rw [Nat.add_mul] at h2
    rw [← Nat.mul_assoc] at h3
    omega
def lowD (r t : Nat) : List Nat := if t = 0 then (if r = 0 then [] else if r = 1 then [2] else [4]) else (if r = 0 then [3] else if r = 1 then [] else [2])
def midD (r t : Nat) : List Nat := if r = 0 ∨ t = 0 then [] else [6]
def gD (r t i j c d : Nat) : List Nat := lowD r t ++ (List.replicate c 5 ++ (midD r t ++ (List.replicate d 7 ++ (List.replicate i 8 ++ List.replicate j 9))))
def prD (r t i j c d : Nat) : Nat := 2 ^ r * 3 ^ t * 5 ^ c * 7 ^ d * 8 ^ i * 9 ^ j
theorem tail_ok (c d i j : Nat) (M : List Nat) (hM : okD M) : okD (List.replicate c 5 ++ (M ++ (List.replicate d 7 ++ (List.replicate i 8 ++ List.replicate j 9)))) := by
  intro x hx
  simp only [List.mem_append, List.mem_replicate] at hx
  rcases hx with h | h | h | h | h
  · omega
  · exact hM x h
  · omega
  · omega
  · omega
theorem snocR (n x : Nat) : List.replicate (n + 1) x = List.replicate n x ++ [x] := List.replicate_succ'
theorem step9 (r t i j c d : Nat) : numL 0 (gD r t i (j + 1) c d) ≤ 10 * numL 0 (gD r t i j c d) + 9 := by
  unfold gD
  rw [snocR, ← numL_snoc]
  simp only [List.append_assoc]
  exact Nat.le_refl _
theorem step8 (r t i j c d : Nat) : numL 0 (gD r t (i + 1) j c d) ≤ 10 * numL 0 (gD r t i j c d) + 8 := by
  have h := num_place (lowD r t ++ (List.replicate c 5 ++ (midD r t ++ (List.replicate d 7 ++ List.replicate i 8)))) (List.replicate j 9) 8 (by simp only [List.mem_replicate]; omega)
  unfold gD
  rw [snocR]
  simpa only [List.append_assoc, List.singleton_append, List.cons_append, List.nil_append] using h
theorem step7 (r t i j c d : Nat) : numL 0 (gD r t i j c (d + 1)) ≤ 10 * numL 0 (gD r t i j c d) + 7 := by
  have h := num_place (lowD r t ++ (List.replicate c 5 ++ (midD r t ++ List.replicate d 7))) (List.replicate i 8 ++ List.replicate j 9) 7 (by simp only [List.mem_append, List.mem_replicate]; omega)
  unfold gD
  rw [snocR]
  simpa only [List.append_assoc, List.singleton_append, List.cons_append, List.nil_append] using h
theorem step5 (r t i j c d : Nat) : numL 0 (gD r t i j (c + 1) d) ≤ 10 * numL 0 (gD r t i j c d) + 5 := by
  have h := num_place (lowD r t ++ List.replicate c 5) (midD r t ++ (List.replicate d 7 ++ (List.replicate i 8 ++ List.replicate j 9))) 5 (by unfold midD; intro x hx; split at hx <;> simp only [List.mem_append, List.mem_replicate, List.mem_singleton, List.not_mem_nil, false_or] at hx <;> omega)
  unfold gD
  rw [snocR]
  simpa only [List.append_assoc, List.singleton_append, List.cons_append, List.nil_append] using h
/-- The next one of the least: with one digit more. -/
def Nx (e r t i j c d : Nat) : Prop := ∃ r' t' i' j' c' d', r' < 3 ∧ t' < 2 ∧ prD r' t' i' j' c' d' = prD r t i j c d * e ∧ numL 0 (gD r' t' i' j' c' d') ≤ 10 * numL 0 (gD r t i j c d) + e
theorem midD_ok (r t : Nat) : okD (midD r t) := by
  unfold midD; intro x hx; split at hx <;> simp only [List.mem_singleton, List.not_mem_nil] at hx; omega
theorem gD_ok (r t i j c d : Nat) : okD (gD r t i j c d) := by
  intro x hx
  unfold gD at hx
  rcases List.mem_append.mp hx with h | h
  · unfold lowD at h; split at h <;> split at h <;> (try split at h) <;> simp only [List.mem_singleton, List.not_mem_nil] at h <;> omega
  · exact tail_ok c d i j _ (midD_ok r t) x h
theorem step2 (r t i j c d : Nat) (hr : r < 3) (ht : t < 2) : Nx 2 r t i j c d := by
  have hcase : (r = 0 ∨ r = 1 ∨ r = 2) ∧ (t = 0 ∨ t = 1) := by omega
  obtain ⟨hr1, ht1⟩ := hcase
  rcases hr1 with rfl | rfl | rfl <;> rcases ht1 with rfl | rfl
  · refine ⟨1, 0, i, j, c, d, by omega, by omega, by unfold prD; simp only [Nat.pow_succ, Nat.pow_zero]; grind, ?_⟩
    exact num_place [] (List.replicate c 5 ++ (midD 0 0 ++ (List.replicate d 7 ++ (List.replicate i 8 ++ List.replicate j 9)))) 2 (by simp [midD] <;> omega)
  · refine ⟨1, 1, i, j, c, d, by omega, by omega, by unfold prD; simp only [Nat.pow_succ, Nat.pow_zero]; grind, ?_⟩
    exact num_short _ _ _ (gD_ok _ _ _ _ _ _) (gD_ok _ _ _ _ _ _) (by simp [gD, lowD, midD] <;> omega) (by simp [gD, lowD, midD])
  · refine ⟨2, 0, i, j, c, d, by omega, by omega, by unfold prD; simp only [Nat.pow_succ, Nat.pow_zero]; grind, ?_⟩
    exact num_short _ _ _ (gD_ok _ _ _ _ _ _) (gD_ok _ _ _ _ _ _) (by simp [gD, lowD, midD] <;> omega) (by simp [gD, lowD, midD])
  · refine ⟨2, 1, i, j, c, d, by omega, by omega, by unfold prD; simp only [Nat.pow_succ, Nat.pow_zero]; grind, ?_⟩
    exact num_place [] (List.replicate c 5 ++ (midD 1 1 ++ (List.replicate d 7 ++ (List.replicate i 8 ++ List.replicate j 9)))) 2 (by simp [midD] <;> omega)
  · refine ⟨0, 0, (i + 1), j, c, d, by omega, by omega, by unfold prD; simp only [Nat.pow_succ, Nat.pow_zero]; grind, ?_⟩
    exact num_short _ _ _ (gD_ok _ _ _ _ _ _) (gD_ok _ _ _ _ _ _) (by simp [gD, lowD, midD] <;> omega) (by simp [gD, lowD, midD])
  · refine ⟨0, 1, (i + 1), j, c, d, by omega, by omega, by unfold prD; simp only [Nat.pow_succ, Nat.pow_zero]; grind, ?_⟩
    exact num_short _ _ _ (gD_ok _ _ _ _ _ _) (gD_ok _ _ _ _ _ _) (by simp [gD, lowD, midD] <;> omega) (by simp [gD, lowD, midD])
theorem step3 (r t i j c d : Nat) (hr : r < 3) (ht : t < 2) : Nx 3 r t i j c d := by
  have hcase : (r = 0 ∨ r = 1 ∨ r = 2) ∧ (t = 0 ∨ t = 1) := by omega
  obtain ⟨hr1, ht1⟩ := hcase
  rcases hr1 with rfl | rfl | rfl <;> rcases ht1 with rfl | rfl
  · refine ⟨0, 1, i, j, c, d, by omega, by omega, by unfold prD; simp only [Nat.pow_succ, Nat.pow_zero]; grind, ?_⟩
    exact num_place [] (List.replicate c 5 ++ (midD 0 0 ++ (List.replicate d 7 ++ (List.replicate i 8 ++ List.replicate j 9)))) 3 (by simp [midD] <;> omega)
  · refine ⟨0, 0, i, (j + 1), c, d, by omega, by omega, by unfold prD; simp only [Nat.pow_succ, Nat.pow_zero]; grind, ?_⟩
    exact num_short _ _ _ (gD_ok _ _ _ _ _ _) (gD_ok _ _ _ _ _ _) (by simp [gD, lowD, midD] <;> omega) (by simp [gD, lowD, midD])
  · refine ⟨1, 1, i, j, c, d, by omega, by omega, by unfold prD; simp only [Nat.pow_succ, Nat.pow_zero]; grind, ?_⟩
    exact num_short _ _ _ (gD_ok _ _ _ _ _ _) (gD_ok _ _ _ _ _ _) (by simp [gD, lowD, midD] <;> omega) (by simp [gD, lowD, midD])
  · refine ⟨1, 0, i, (j + 1), c, d, by omega, by omega, by unfold prD; simp only [Nat.pow_succ, Nat.pow_zero]; grind, ?_⟩
    exact num_lead 2 3 (List.replicate c 5 ++ (midD 1 0 ++ (List.replicate d 7 ++ (List.replicate i 8 ++ List.replicate (j + 1) 9)))) _ (tail_ok _ _ _ _ _ (midD_ok _ _)) (by simp [gD, lowD, midD] <;> omega) (by simp [gD, lowD, midD] <;> omega) (by simp [gD, lowD, midD])
  · refine ⟨2, 1, i, j, c, d, by omega, by omega, by unfold prD; simp only [Nat.pow_succ, Nat.pow_zero]; grind, ?_⟩
    exact num_lead 2 3 (List.replicate c 5 ++ (midD 2 1 ++ (List.replicate d 7 ++ (List.replicate i 8 ++ List.replicate j 9)))) _ (tail_ok _ _ _ _ _ (midD_ok _ _)) (by simp [gD, lowD, midD] <;> omega) (by simp [gD, lowD, midD] <;> omega) (by simp [gD, lowD, midD])
  · refine ⟨2, 0, i, (j + 1), c, d, by omega, by omega, by unfold prD; simp only [Nat.pow_succ, Nat.pow_zero]; grind, ?_⟩
    exact num_short _ _ _ (gD_ok _ _ _ _ _ _) (gD_ok _ _ _ _ _ _) (by simp [gD, lowD, midD] <;> omega) (by simp [gD, lowD, midD])
theorem step4 (r t i j c d : Nat) (hr : r < 3) (ht : t < 2) : Nx 4 r t i j c d := by
  have hcase : (r = 0 ∨ r = 1 ∨ r = 2) ∧ (t = 0 ∨ t = 1) := by omega
  obtain ⟨hr1, ht1⟩ := hcase
  rcases hr1 with rfl | rfl | rfl <;> rcases ht1 with rfl | rfl
  · refine ⟨2, 0, i, j, c, d, by omega, by omega, by unfold prD; simp only [Nat.pow_succ, Nat.pow_zero]; grind, ?_⟩
    exact num_place [] (List.replicate c 5 ++ (midD 0 0 ++ (List.replicate d 7 ++ (List.replicate i 8 ++ List.replicate j 9)))) 4 (by simp [midD] <;> omega)
  · refine ⟨2, 1, i, j, c, d, by omega, by omega, by unfold prD; simp only [Nat.pow_succ, Nat.pow_zero]; grind, ?_⟩
    exact num_lead 2 4 (List.replicate c 5 ++ (midD 2 1 ++ (List.replicate d 7 ++ (List.replicate i 8 ++ List.replicate j 9)))) _ (tail_ok _ _ _ _ _ (midD_ok _ _)) (by simp [gD, lowD, midD] <;> omega) (by simp [gD, lowD, midD] <;> omega) (by simp [gD, lowD, midD])
  · refine ⟨0, 0, (i + 1), j, c, d, by omega, by omega, by unfold prD; simp only [Nat.pow_succ, Nat.pow_zero]; grind, ?_⟩
    exact num_short _ _ _ (gD_ok _ _ _ _ _ _) (gD_ok _ _ _ _ _ _) (by simp [gD, lowD, midD] <;> omega) (by simp [gD, lowD, midD])
  · refine ⟨0, 1, (i + 1), j, c, d, by omega, by omega, by unfold prD; simp only [Nat.pow_succ, Nat.pow_zero]; grind, ?_⟩
    exact num_lead 3 4 (List.replicate c 5 ++ (midD 0 1 ++ (List.replicate d 7 ++ (List.replicate (i + 1) 8 ++ List.replicate j 9)))) _ (tail_ok _ _ _ _ _ (midD_ok _ _)) (by simp [gD, lowD, midD] <;> omega) (by simp [gD, lowD, midD] <;> omega) (by simp [gD, lowD, midD])
  · refine ⟨1, 0, (i + 1), j, c, d, by omega, by omega, by unfold prD; simp only [Nat.pow_succ, Nat.pow_zero]; grind, ?_⟩
    exact num_lead 2 4 (List.replicate c 5 ++ (midD 1 0 ++ (List.replicate d 7 ++ (List.replicate (i + 1) 8 ++ List.replicate j 9)))) _ (tail_ok _ _ _ _ _ (midD_ok _ _)) (by simp [gD, lowD, midD] <;> omega) (by simp [gD, lowD, midD] <;> omega) (by simp [gD, lowD, midD])
  · refine ⟨1, 1, (i + 1), j, c, d, by omega, by omega, by unfold prD; simp only [Nat.pow_succ, Nat.pow_zero]; grind, ?_⟩
    exact num_short _ _ _ (gD_ok _ _ _ _ _ _) (gD_ok _ _ _ _ _ _) (by simp [gD, lowD, midD] <;> omega) (by simp [gD, lowD, midD])
theorem step6 (r t i j c d : Nat) (hr : r < 3) (ht : t < 2) : Nx 6 r t i j c d := by
  have hcase : (r = 0 ∨ r = 1 ∨ r = 2) ∧ (t = 0 ∨ t = 1) := by omega
  obtain ⟨hr1, ht1⟩ := hcase
  rcases hr1 with rfl | rfl | rfl <;> rcases ht1 with rfl | rfl
  · refine ⟨1, 1, i, j, c, d, by omega, by omega, by unfold prD; simp only [Nat.pow_succ, Nat.pow_zero]; grind, ?_⟩
    have h := num_place (lowD 0 0 ++ List.replicate c 5) (List.replicate d 7 ++ (List.replicate i 8 ++ List.replicate j 9)) 6 (by simp only [List.mem_append, List.mem_replicate]; omega)
    simpa [gD, lowD, midD] using h
  · refine ⟨1, 0, i, (j + 1), c, d, by omega, by omega, by unfold prD; simp only [Nat.pow_succ, Nat.pow_zero]; grind, ?_⟩
    exact num_lead 2 6 (List.replicate c 5 ++ (midD 1 0 ++ (List.replicate d 7 ++ (List.replicate i 8 ++ List.replicate (j + 1) 9)))) _ (tail_ok _ _ _ _ _ (midD_ok _ _)) (by simp [gD, lowD, midD] <;> omega) (by simp [gD, lowD, midD] <;> omega) (by simp [gD, lowD, midD])
  · refine ⟨2, 1, i, j, c, d, by omega, by omega, by unfold prD; simp only [Nat.pow_succ, Nat.pow_zero]; grind, ?_⟩
    have h := num_place (lowD 1 0 ++ List.replicate c 5) (List.replicate d 7 ++ (List.replicate i 8 ++ List.replicate j 9)) 6 (by simp only [List.mem_append, List.mem_replicate]; omega)
    simpa [gD, lowD, midD] using h
  · refine ⟨2, 0, i, (j + 1), c, d, by omega, by omega, by unfold prD; simp only [Nat.pow_succ, Nat.pow_zero]; grind, ?_⟩
    exact num_lead 4 6 (List.replicate c 5 ++ (midD 2 0 ++ (List.replicate d 7 ++ (List.replicate i 8 ++ List.replicate (j + 1) 9)))) _ (tail_ok _ _ _ _ _ (midD_ok _ _)) (by simp [gD, lowD, midD] <;> omega) (by simp [gD, lowD, midD] <;> omega) (by simp [gD, lowD, midD])
  · refine ⟨0, 1, (i + 1), j, c, d, by omega, by omega, by unfold prD; simp only [Nat.pow_succ, Nat.pow_zero]; grind, ?_⟩
    exact num_lead 3 6 (List.replicate c 5 ++ (midD 0 1 ++ (List.replicate d 7 ++ (List.replicate (i + 1) 8 ++ List.replicate j 9)))) _ (tail_ok _ _ _ _ _ (midD_ok _ _)) (by simp [gD, lowD, midD] <;> omega) (by simp [gD, lowD, midD] <;> omega) (by simp [gD, lowD, midD])
  · refine ⟨0, 0, (i + 1), (j + 1), c, d, by omega, by omega, by unfold prD; simp only [Nat.pow_succ, Nat.pow_zero]; grind, ?_⟩
    exact num_short _ _ _ (gD_ok _ _ _ _ _ _) (gD_ok _ _ _ _ _ _) (by simp [gD, lowD, midD] <;> omega) (by simp [gD, lowD, midD])
/-- Digits in any order with a product: the least number of it is no greater. -/
theorem gD_least : ∀ (n : Nat) (l : List Nat), l.length = n → okD l → ∃ r t i j c d, r < 3 ∧ t < 2 ∧ prD r t i j c d = lpN l ∧ numL 0 (gD r t i j c d) ≤ numL 0 l := by
  intro n
  induction n with
  | zero =>
    intro l hl _
    have : l = [] := List.eq_nil_of_length_eq_zero hl
    subst this
    exact ⟨0, 0, 0, 0, 0, 0, by omega, by omega, by decide, by decide⟩
  | succ n ih =>
    intro l hl h
    rcases List.eq_nil_or_concat l with rfl | ⟨m, e, rfl⟩
    · simp at hl
    · rw [List.concat_eq_append] at hl h ⊢
      obtain ⟨r, t, i, j, c, d, hr, ht, hp, hv⟩ := ih m (by simpa using hl) (fun x hx => h x (List.mem_append_left _ hx))
      have he := h e (List.mem_append_right _ List.mem_cons_self)
      rw [lpN_append, numL_snoc]
      have hlp : lpN [e] = e := by simp [lpN]
      rw [hlp, ← hp]
      have key : Nx e r t i j c d := by
        have : e = 1 ∨ e = 2 ∨ e = 3 ∨ e = 4 ∨ e = 5 ∨ e = 6 ∨ e = 7 ∨ e = 8 ∨ e = 9 := by omega
        rcases this with rfl | rfl | rfl | rfl | rfl | rfl | rfl | rfl | rfl
        · exact ⟨r, t, i, j, c, d, hr, ht, by omega, by omega⟩
        · exact step2 r t i j c d hr ht
        · exact step3 r t i j c d hr ht
        · exact step4 r t i j c d hr ht
        · exact ⟨r, t, i, j, c + 1, d, hr, ht, by unfold prD; simp only [Nat.pow_succ]; grind, step5 r t i j c d⟩
        · exact step6 r t i j c d hr ht
        · exact ⟨r, t, i, j, c, d + 1, hr, ht, by unfold prD; simp only [Nat.pow_succ]; grind, step7 r t i j c d⟩
        · exact ⟨r, t, i + 1, j, c, d, hr, ht, by unfold prD; simp only [Nat.pow_succ]; grind, step8 r t i j c d⟩
        · exact ⟨r, t, i, j + 1, c, d, hr, ht, by unfold prD; simp only [Nat.pow_succ]; grind, step9 r t i j c d⟩
      obtain ⟨r', t', i', j', c', d', a1, a2, a3, a4⟩ := key
      exact ⟨r', t', i', j', c', d', a1, a2, a3, by omega⟩
theorem nz_pow (p q : Nat) (hq : ∀ x, x % p ≠ 0 → x * q % p ≠ 0) (x n : Nat) (hx : x % p ≠ 0) : x * q ^ n % p ≠ 0 := by
  induction n with
  | zero => simpa using hx
  | succ n ih => rw [Nat.pow_succ, ← Nat.mul_assoc]; exact hq _ ih
/-- What is left of a product when the greatest digits are taken off. -/
theorem no9 (r t i c d : Nat) (hr : r < 3) (ht : t < 2) : prD r t i 0 c d % 9 ≠ 0 := by
  have h1 : 1 * 2 ^ r * 5 ^ c * 7 ^ d * 8 ^ i % 3 ≠ 0 :=
    nz_pow 3 8 (by omega) _ i (nz_pow 3 7 (by omega) _ d (nz_pow 3 5 (by omega) _ c (nz_pow 3 2 (by omega) 1 r (by decide))))
  have e : prD r t i 0 c d = 1 * 2 ^ r * 5 ^ c * 7 ^ d * 8 ^ i * 3 ^ t := by unfold prD; grind
  rw [e]
  generalize 1 * 2 ^ r * 5 ^ c * 7 ^ d * 8 ^ i = X at h1
  have : t = 0 ∨ t = 1 := by omega
  rcases this with rfl | rfl <;> omega
theorem no8 (r t c d : Nat) (hr : r < 3) (ht : t < 2) : prD r t 0 0 c d % 8 ≠ 0 := by
  have h1 : 1 * 3 ^ t * 5 ^ c * 7 ^ d % 2 ≠ 0 :=
    nz_pow 2 7 (by omega) _ d (nz_pow 2 5 (by omega) _ c (nz_pow 2 3 (by omega) 1 t (by decide)))
  have e : prD r t 0 0 c d = 1 * 3 ^ t * 5 ^ c * 7 ^ d * 2 ^ r := by unfold prD; grind
  rw [e]
  generalize 1 * 3 ^ t * 5 ^ c * 7 ^ d = X at h1
  have : r = 0 ∨ r = 1 ∨ r = 2 := by omega
  rcases this with rfl | rfl | rfl <;> omega
theorem no7 (r t c : Nat) : prD r t 0 0 c 0 % 7 ≠ 0 := by
  have h1 : 1 * 3 ^ t * 5 ^ c * 2 ^ r % 7 ≠ 0 :=
    nz_pow 7 2 (by omega) _ r (nz_pow 7 5 (by omega) _ c (nz_pow 7 3 (by omega) 1 t (by decide)))
  have e : prD r t 0 0 c 0 = 1 * 3 ^ t * 5 ^ c * 2 ^ r := by unfold prD; grind
  rwa [e]
theorem no6 (r t c : Nat) (hr : r < 3) (ht : t < 2) (h : r = 0 ∨ t = 0) : prD r t 0 0 c 0 % 6 ≠ 0 := by
  have h2 : 1 * 3 ^ t * 5 ^ c % 2 ≠ 0 := nz_pow 2 5 (by omega) _ c (nz_pow 2 3 (by omega) 1 t (by decide))
  have h3 : 1 * 2 ^ r * 5 ^ c % 3 ≠ 0 := nz_pow 3 5 (by omega) _ c (nz_pow 3 2 (by omega) 1 r (by decide))
  rcases h with rfl | rfl
  · have e : prD 0 t 0 0 c 0 = 1 * 3 ^ t * 5 ^ c := by unfold prD; grind
    rw [e]; omega
  · have e : prD r 0 0 0 c 0 = 1 * 2 ^ r * 5 ^ c := by unfold prD; grind
    rw [e]; omega
theorem no5 (r t : Nat) : prD r t 0 0 0 0 % 5 ≠ 0 := by
  have h1 : 1 * 3 ^ t * 2 ^ r % 5 ≠ 0 := nz_pow 5 2 (by omega) _ r (nz_pow 5 3 (by omega) 1 t (by decide))
  have e : prD r t 0 0 0 0 = 1 * 3 ^ t * 2 ^ r := by unfold prD; grind
  rwa [e]

/-! ### the program's least number with a product -/
theorem lwp_loop (q X : Nat) (hq : 2 ≤ q ∧ q ≤ 9) (hX : X % q ≠ 0) (res : Int × Bool) : ∀ (n : Nat) (R : List Nat), X * q ^ n ≤ 1000000000000 → R.length + n ≤ 100 →
    Ev (fun k => impl_LeastWithProduct.l0 k (X : Int) (dsOf (List.replicate n q ++ R)) ((q : Int) - 1)) res → Ev (fun k => impl_LeastWithProduct.l1 k ((X * q ^ n : Nat) : Int) (dsOf R) (q : Int)) res := by
  intro n
  induction n with
  | zero =>
    intro R hb hl h
    refine ev_succ ?_
    simp only [impl_LeastWithProduct.l1]
    refine ev_neg (by omega) (ev_neg ?_ ?_)
    · rw [w_modd, Nat.pow_zero, Nat.mul_one]; omega
    · rw [wrap_of (by omega) (by omega), Nat.pow_zero, Nat.mul_one]; exact h
  | succ n ih =>
    intro R hb hl h
    have hle : X * q ^ n ≤ X * q ^ (n + 1) := Nat.mul_le_mul_left _ (Nat.pow_le_pow_right (by omega) (by omega))
    have hmul : X * q ^ (n + 1) = X * q ^ n * q := by rw [Nat.pow_succ, Nat.mul_assoc]
    refine ev_succ ?_
    simp only [impl_LeastWithProduct.l1]
    refine ev_neg (by omega) (ev_pos ?_ (ev_pos ?_ ?_))
    · rw [w_modd, hmul, Nat.mul_mod_left]; rfl
    · rw [dsOf_len]; omega
    · rw [w_divd _ q (X * q ^ n) (by rw [hmul]; exact (Nat.mul_div_cancel _ (by omega)).symm) (by omega), wrap_of (x := 48 + (q : Int)) (by omega) (by omega), show (48 + (q : Int)) % 256 = 48 + (q : Int) by omega, ← dsOf_cons]
      refine ih (q :: R) (by omega) (by simp; omega) ?_
      have e : List.replicate n q ++ q :: R = List.replicate (n + 1) q ++ R := by rw [snocR]; simp
      rw [e]; exact h
theorem lwp_digit (q X n : Nat) (R : List Nat) (res : Int × Bool) (hq : 2 ≤ q ∧ q ≤ 9) (hX : X % q ≠ 0) (hb : X * q ^ n ≤ 1000000000000) (hl : R.length + n ≤ 100)
    (h : Ev (fun k => impl_LeastWithProduct.l0 k (X : Int) (dsOf (List.replicate n q ++ R)) ((q : Int) - 1)) res) : Ev (fun k => impl_LeastWithProduct.l0 k ((X * q ^ n : Nat) : Int) (dsOf R) (q : Int)) res := by
  refine ev_succ ?_
  simp only [impl_LeastWithProduct.l0]
  exact ev_pos (by omega) (lwp_loop q X hq hX res n R hb hl h)
theorem rep_mem {n a x : Nat} (h : x ∈ List.replicate n a) : x = a := (List.mem_replicate.mp h).2
theorem pw_rep (n a : Nat) : (List.replicate n a).Pairwise (· ≤ ·) := by
  rw [List.pairwise_replicate]; right; exact Nat.le_refl _
theorem pw_app {A B : List Nat} (m : Nat) (hA : A.Pairwise (· ≤ ·)) (hB : B.Pairwise (· ≤ ·)) (h1 : ∀ x ∈ A, x ≤ m) (h2 : ∀ x ∈ B, m ≤ x) : (A ++ B).Pairwise (· ≤ ·) :=
  List.pairwise_append.mpr ⟨hA, hB, fun a ha b hb => Nat.le_trans (h1 a ha) (h2 b hb)⟩
theorem lowD_in (r t : Nat) : ∀ x ∈ lowD r t, 2 ≤ x ∧ x ≤ 4 := by
  intro x h
  unfold lowD at h
  split at h <;> split at h <;> (try split at h) <;> simp only [List.mem_singleton, List.not_mem_nil] at h <;> omega
theorem lowD_pw (r t : Nat) : (lowD r t).Pairwise (· ≤ ·) := by
  unfold lowD
  split <;> split <;> (try split) <;> simp
theorem midD_in (r t : Nat) : ∀ x ∈ midD r t, x = 6 := by
  intro x h
  unfold midD at h
  split at h <;> simp only [List.mem_singleton, List.not_mem_nil] at h
  exact h
theorem midD_pw (r t : Nat) : (midD r t).Pairwise (· ≤ ·) := by
  unfold midD
  split <;> simp
theorem gD_asc (r t i j c d : Nat) : asc 2 (gD r t i j c d) := by
  refine asc_of _ 2 ?_ ?_
  · unfold gD
    refine pw_app 4 (lowD_pw r t) (pw_app 5 (pw_rep _ _) (pw_app 6 (midD_pw r t) (pw_app 7 (pw_rep _ _) (pw_app 8 (pw_rep _ _) (pw_rep _ _) ?_ ?_) ?_ ?_) ?_ ?_) ?_ ?_) (fun x hx => (lowD_in r t x hx).2) ?_
    all_goals intro x hx
    all_goals (try simp only [List.mem_append] at hx)
    all_goals repeat' first | (have h_ := rep_mem hx; omega) | (have h_ := midD_in _ _ _ hx; omega) | (rcases hx with hx | hx)
  · intro x hx
    unfold gD at hx
    simp only [List.mem_append] at hx
    rcases hx with hx | hx | hx | hx | hx | hx
    · have := lowD_in _ _ _ hx; omega
    · have := rep_mem hx; omega
    · have := midD_in _ _ _ hx; omega
    · have := rep_mem hx; omega
    · have := rep_mem hx; omega
    · have := rep_mem hx; omega
theorem gD_len (r t i j c d : Nat) : (gD r t i j c d).length ≤ 2 + c + d + i + j := by
  simp only [gD, List.length_append, List.length_replicate]
  have h1 : (lowD r t).length ≤ 1 := by unfold lowD; split <;> split <;> (try split) <;> simp
  have h2 : (midD r t).length ≤ 1 := by unfold midD; split <;> simp
  omega
theorem lwp_end (l : List Nat) (h : asc 2 l) (hl : l.length ≤ 12) : Ev (fun k => impl_LeastWithProduct.l0 k (1 : Int) (dsOf l) (1 : Int)) ((numL 0 l : Int), true) := by
  refine ev_succ ?_
  simp only [impl_LeastWithProduct.l0]
  refine ev_neg (by omega) (ev_neg (by omega) ?_)
  have e := asL_ev l 0 h
  rw [List.replicate_zero, List.append_nil, List.replicate_zero, List.nil_append, if_neg (by omega)] at e
  exact ev_pos (by rw [dsOf_len]; omega) (Ev.bind e (ev_eq fun _ => rfl))

/-- The program's least number with a product, where digits make it. -/
theorem iLWP_ev (r t i j c d : Nat) (hr : r < 3) (ht : t < 2) (hp : prD r t i j c d ≤ 1000000000000) (hl : (gD r t i j c d).length ≤ 12) :
    ∃ m : Nat, Ev (fun k => impl_LeastWithProduct.f k ((prD r t i j c d : Nat) : Int)) ((m : Int), true) ∧ (m = 1 ∧ prD r t i j c d = 1 ∨ m = numL 0 (gD r t i j c d)) := by
  have hpos : 1 ≤ prD r t i j c d := by
    unfold prD
    have h1 : ∀ b n : Nat, 1 ≤ b → 1 ≤ b ^ n := fun b n h => Nat.one_le_pow _ _ h
    have h2 : ∀ a b : Nat, 1 ≤ a → 1 ≤ b → 1 ≤ a * b := fun a b h h' => Nat.mul_pos h h'
    exact h2 _ _ (h2 _ _ (h2 _ _ (h2 _ _ (h2 _ _ (h1 _ _ (by omega)) (h1 _ _ (by omega))) (h1 _ _ (by omega))) (h1 _ _ (by omega))) (h1 _ _ (by omega))) (h1 _ _ (by omega))
  have hlen : c + d + i + j ≤ 12 := by
    have : (gD r t i j c d).length = (lowD r t).length + (c + ((midD r t).length + (d + (i + j)))) := by simp [gD]
    omega
  unfold impl_LeastWithProduct.f impl_isProduct.f
  rw [within_eq]
  simp only [Option.bind_some]
  by_cases h1 : prD r t i j c d = 1
  · refine ⟨1, ev_pos (by simp; omega) (ev_pos (by omega) (ev_eq fun _ => rfl)), .inl ⟨rfl, h1⟩⟩
  · refine ⟨numL 0 (gD r t i j c d), ev_pos (by simp; omega) (ev_neg (by omega) ?_), .inr rfl⟩
    have e9 : prD r t i j c d = prD r t i 0 c d * 9 ^ j := by unfold prD; grind
    have e8 : prD r t i 0 c d = prD r t 0 0 c d * 8 ^ i := by unfold prD; grind
    have e7 : prD r t 0 0 c d = prD r t 0 0 c 0 * 7 ^ d := by unfold prD; grind
    have b8 : prD r t i 0 c d ≤ prD r t i j c d := by rw [e9]; exact Nat.le_mul_of_pos_right _ (Nat.pow_pos (by omega))
    have b7 : prD r t 0 0 c d ≤ prD r t i 0 c d := by rw [e8]; exact Nat.le_mul_of_pos_right _ (Nat.pow_pos (by omega))
    have b6 : prD r t 0 0 c 0 ≤ prD r t 0 0 c d := by rw [e7]; exact Nat.le_mul_of_pos_right _ (Nat.pow_pos (by omega))
    have s0 : ([] : List Int) = dsOf [] := rfl
    rw [s0, e9]
    refine lwp_digit 9 (prD r t i 0 c d) j [] _ (by omega) (no9 r t i c d hr ht) (by omega) (by simp; omega) ?_
    rw [e8]
    refine lwp_digit 8 (prD r t 0 0 c d) i _ _ (by omega) (no8 r t c d hr ht) (by omega) (by simp; omega) ?_
    rw [e7]
    refine lwp_digit 7 (prD r t 0 0 c 0) d _ _ (by omega) (no7 r t c) (by omega) (by simp; omega) ?_
    have hcase : (r = 0 ∨ r = 1 ∨ r = 2) ∧ (t = 0 ∨ t = 1) := by omega
    obtain ⟨hr1, ht1⟩ := hcase
    have fin : ∀ (n6 n4 n3 n2 : Nat), n6 ≤ 1 → n4 ≤ 1 → n3 ≤ 1 → n2 ≤ 1 → 2 ^ r * 3 ^ t = 2 ^ n2 * 3 ^ n3 * 4 ^ n4 * 6 ^ n6 → (n6 = 1 ∨ r = 0 ∨ t = 0) → n2 + n3 + n4 ≤ 1 →
        gD r t i j c d = List.replicate n2 2 ++ (List.replicate n3 3 ++ (List.replicate n4 4 ++ (List.replicate c 5 ++ (List.replicate n6 6 ++ (List.replicate d 7 ++ (List.replicate i 8 ++ (List.replicate j 9 ++ []))))))) →
        Ev (fun k => impl_LeastWithProduct.l0 k ((prD r t 0 0 c 0 : Nat) : Int) (dsOf (List.replicate d 7 ++ (List.replicate i 8 ++ (List.replicate j 9 ++ [])))) ((7 : Nat) - 1 : Int)) ((numL 0 (gD r t i j c d) : Int), true) := by
      intro n6 n4 n3 n2 l6 l4 l3 l2 hm h6 hs hg
      have f6 : prD r t 0 0 c 0 = (2 ^ n2 * 3 ^ n3 * 4 ^ n4 * 5 ^ c) * 6 ^ n6 := by unfold prD; grind
      have hX : 2 ^ n2 * 3 ^ n3 * 4 ^ n4 = 1 ∨ 2 ^ n2 * 3 ^ n3 * 4 ^ n4 = 2 ∨ 2 ^ n2 * 3 ^ n3 * 4 ^ n4 = 3 ∨ 2 ^ n2 * 3 ^ n3 * 4 ^ n4 = 4 := by
        have q4 : n4 = 0 ∨ n4 = 1 := by omega
        have q3 : n3 = 0 ∨ n3 = 1 := by omega
        have q2 : n2 = 0 ∨ n2 = 1 := by omega
        rcases q4 with rfl | rfl <;> rcases q3 with rfl | rfl <;> rcases q2 with rfl | rfl <;> first | omega | simp
      have z6 : (2 ^ n2 * 3 ^ n3 * 4 ^ n4 * 5 ^ c) % 6 ≠ 0 := by
        have k2 := nz_pow 2 5 (by omega) (2 ^ n2 * 3 ^ n3 * 4 ^ n4) c
        have k3 := nz_pow 3 5 (by omega) (2 ^ n2 * 3 ^ n3 * 4 ^ n4) c
        rcases hX with h | h | h | h <;> rw [h] at k2 k3 ⊢ <;> first | (have := k2 (by decide); omega) | (have := k3 (by decide); omega)
      have z5 : (2 ^ n2 * 3 ^ n3 * 4 ^ n4) % 5 ≠ 0 := by rcases hX with h | h | h | h <;> rw [h] <;> decide
      have c5 : 2 ^ n2 * 3 ^ n3 * 4 ^ n4 * 5 ^ c ≤ prD r t 0 0 c 0 := by rw [f6]; exact Nat.le_mul_of_pos_right _ (Nat.pow_pos (by omega))
      rw [f6]
      refine lwp_digit 6 _ n6 _ _ (by omega) z6 (by omega) (by simp; omega) ?_
      refine lwp_digit 5 _ c _ _ (by omega) z5 (by omega) (by simp; omega) ?_
      refine lwp_digit 4 (2 ^ n2 * 3 ^ n3) n4 _ _ (by omega) ?_ (by omega) (by simp; omega) ?_
      · have q3 : n3 = 0 ∨ n3 = 1 := by omega
        have q2 : n2 = 0 ∨ n2 = 1 := by omega
        rcases q3 with rfl | rfl <;> rcases q2 with rfl | rfl <;> decide
      refine lwp_digit 3 (2 ^ n2) n3 _ _ (by omega) ?_ ?_ (by simp; omega) ?_
      · have q2 : n2 = 0 ∨ n2 = 1 := by omega
        rcases q2 with rfl | rfl <;> decide
      · have q3 : n3 = 0 ∨ n3 = 1 := by omega
        have q2 : n2 = 0 ∨ n2 = 1 := by omega
        rcases q3 with rfl | rfl <;> rcases q2 with rfl | rfl <;> decide
      have t2 : 2 ^ n2 = 1 * 2 ^ n2 := by rw [Nat.one_mul]
      rw [t2]
      refine lwp_digit 2 1 n2 _ _ (by omega) (by decide) ?_ (by simp; omega) ?_
      · have q2 : n2 = 0 ∨ n2 = 1 := by omega
        rcases q2 with rfl | rfl <;> decide
      rw [← hg]
      exact lwp_end _ (gD_asc _ _ _ _ _ _) hl
    rcases hr1 with rfl | rfl | rfl <;> rcases ht1 with rfl | rfl
    · exact fin 0 0 0 0 (by omega) (by omega) (by omega) (by omega) (by decide) (by omega) (by omega) (by simp [gD, lowD, midD])
    · exact fin 0 0 1 0 (by omega) (by omega) (by omega) (by omega) (by decide) (by omega) (by omega) (by simp [gD, lowD, midD])
    · exact fin 0 0 0 1 (by omega) (by omega) (by omega) (by omega) (by decide) (by omega) (by omega) (by simp [gD, lowD, midD])
    · exact fin 1 0 0 0 (by omega) (by omega) (by omega) (by omega) (by decide) (by omega) (by omega) (by simp [gD, lowD, midD])
    · exact fin 0 1 0 0 (by omega) (by omega) (by omega) (by omega) (by decide) (by omega) (by omega) (by simp [gD, lowD, midD])
    · exact fin 1 0 0 1 (by omega) (by omega) (by omega) (by omega) (by decide) (by omega) (by omega) (by simp [gD, lowD, midD])
/-- The least number with the product of a number's digits is no greater than it. -/
theorem lwp_law (l : List Nat) (h : asc 1 l) (h1 : 1 ≤ l.length) (h2 : l.length ≤ 12) (hp : lpN l ≤ 1000000000000) : ∃ m : Nat, Ev (fun k => impl_LeastWithProduct.f k ((lpN l : Nat) : Int)) ((m : Int), true) ∧ m ≤ numL 0 l := by
  have hok : okD l := fun x hx => (asc_all l 1 h).2 x hx
  obtain ⟨r, t, i, j, c, d, hr, ht, hP, hv⟩ := gD_least l.length l rfl hok
  have hup := numL_up l hok
  have h12 : 10 ^ l.length ≤ 10 ^ 12 := Nat.pow_le_pow_right (by omega) h2
  have hlen : (gD r t i j c d).length ≤ 12 := by
    have hg := gD_ok r t i j c d
    cases hG : gD r t i j c d with
    | nil => simp
    | cons x X =>
      rw [hG] at hg hv
      have a1 := numL_lo x 1 X (hg x List.mem_cons_self).1
      rw [Nat.one_mul] at a1
      by_cases q : X.length < 12
      · simp only [List.length_cons]; omega
      · have : 10 ^ 12 ≤ 10 ^ X.length := Nat.pow_le_pow_right (by omega) (by omega)
        omega
  obtain ⟨m, hm, hc⟩ := iLWP_ev r t i j c d hr ht (by rw [hP]; exact hp) hlen
  rw [hP] at hm
  refine ⟨m, hm, ?_⟩
  rcases hc with ⟨rfl, _⟩ | rfl
  · cases l with
    | nil => simp at h1
    | cons x X =>
      have a1 := numL_lo x 1 X (hok x List.mem_cons_self).1
      have : 0 < 10 ^ X.length := Nat.pow_pos (by omega)
      omega
  · exact hv

/-! ### the reference's least number with a product -/
theorem slwp_loop (q X : Nat) (hq : 2 ≤ q ∧ q ≤ 9) (hX : X % q ≠ 0) (res : Int × Bool) : ∀ (n : Nat) (R : List Nat), okD R → X * q ^ n ≤ 1000000000000 → R.length + n ≤ 15 →
    Ev (fun k => spec_LeastWithProduct.l0 k (X : Int) ((numL 0 (List.replicate n q ++ R) : Nat) : Int) ((10 ^ (List.replicate n q ++ R).length : Nat) : Int) ((q : Int) - 1)) res → Ev (fun k => spec_LeastWithProduct.l1 k ((X * q ^ n : Nat) : Int) ((numL 0 R : Nat) : Int) ((10 ^ R.length : Nat) : Int) (q : Int)) res := by
  intro n
  induction n with
  | zero =>
    intro R hok hb hl h
    refine ev_succ ?_
    simp only [spec_LeastWithProduct.l1]
    refine ev_neg (by omega) (ev_neg ?_ ?_)
    · rw [w_modd, Nat.pow_zero, Nat.mul_one]; omega
    · rw [wrap_of (x := (q : Int) - 1) (by omega) (by omega), Nat.pow_zero, Nat.mul_one]; exact h
  | succ n ih =>
    intro R hok hb hl h
    have hle : X * q ^ n ≤ X * q ^ (n + 1) := Nat.mul_le_mul_left _ (Nat.pow_le_pow_right (by omega) (by omega))
    have hmul : X * q ^ (n + 1) = X * q ^ n * q := by rw [Nat.pow_succ, Nat.mul_assoc]
    have hup := numL_up R hok
    have h15 : 10 ^ R.length ≤ 10 ^ 15 := Nat.pow_le_pow_right (by omega) (by omega)
    have hq10 : q * 10 ^ R.length ≤ 9 * 10 ^ R.length := Nat.mul_le_mul_right _ (by omega)
    have w1 : wrap64 ((q : Int) * ((10 ^ R.length : Nat) : Int)) = ((q * 10 ^ R.length : Nat) : Int) := by rw [← Int.natCast_mul]; exact wrap_of (by omega) (by omega)
    have w2 : wrap64 (((numL 0 R : Nat) : Int) + ((q * 10 ^ R.length : Nat) : Int)) = ((numL 0 (q :: R) : Nat) : Int) := by
      rw [wrap_of (by omega) (by omega), numL, numL_eq R (10 * 0 + q), show 10 * 0 + q = q by omega]; omega
    have w3 : wrap64 (((10 ^ R.length : Nat) : Int) * 10) = ((10 ^ (q :: R).length : Nat) : Int) := by
      rw [wrap_of (by omega) (by omega), List.length_cons, Nat.pow_succ]; omega
    refine ev_succ ?_
    simp only [spec_LeastWithProduct.l1]
    refine ev_neg (by omega) (ev_pos ?_ ?_)
    · rw [w_modd, hmul, Nat.mul_mod_left]; rfl
    · rw [w_divd _ q (X * q ^ n) (by rw [hmul]; exact (Nat.mul_div_cancel _ (by omega)).symm) (by omega), w1, w2, w3]
      refine ih (q :: R) (fun x hx => by rcases List.mem_cons.mp hx with rfl | hx; omega; exact hok x hx) (by omega) (by simp; omega) ?_
      have e : List.replicate n q ++ q :: R = List.replicate (n + 1) q ++ R := by rw [snocR]; simp
      rw [e]; exact h
theorem slwp_digit (q X n : Nat) (R : List Nat) (res : Int × Bool) (hok : okD R) (hq : 2 ≤ q ∧ q ≤ 9) (hX : X % q ≠ 0) (hb : X * q ^ n ≤ 1000000000000) (hl : R.length + n ≤ 15)
    (h : Ev (fun k => spec_LeastWithProduct.l0 k (X : Int) ((numL 0 (List.replicate n q ++ R) : Nat) : Int) ((10 ^ (List.replicate n q ++ R).length : Nat) : Int) ((q : Int) - 1)) res) : Ev (fun k => spec_LeastWithProduct.l0 k ((X * q ^ n : Nat) : Int) ((numL 0 R : Nat) : Int) ((10 ^ R.length : Nat) : Int) (q : Int)) res := by
  refine ev_succ ?_
  simp only [spec_LeastWithProduct.l0]
  exact ev_pos (by omega) (slwp_loop q X hq hX res n R hok hb hl h)
theorem slwp_end (l : List Nat) (h : okD l) (hl : l.length ≤ 12) : Ev (fun k => spec_LeastWithProduct.l0 k (1 : Int) ((numL 0 l : Nat) : Int) ((10 ^ l.length : Nat) : Int) (1 : Int)) (((max 1 (numL 0 l) : Nat) : Int), true) := by
  have hup := numL_up l h
  have h12 : 10 ^ l.length ≤ 10 ^ 12 := Nat.pow_le_pow_right (by omega) hl
  refine ev_succ ?_
  simp only [spec_LeastWithProduct.l0]
  refine ev_neg (by omega) (ev_neg (by omega) (ev_neg (by omega) ?_))
  refine ev_bind (a := ((max 1 (numL 0 l) : Nat) : Int)) ?_ (ev_eq fun _ => rfl)
  unfold spec_l1Most.f
  by_cases c : (1 : Int) > ((numL 0 l : Nat) : Int)
  · rw [if_pos c]; congr 1; omega
  · rw [if_neg c]; congr 1; omega
/-- The reference's least number with a product, where digits make it. -/
theorem sLWP_ev (r t i j c d : Nat) (hr : r < 3) (ht : t < 2) (hp : prD r t i j c d ≤ 1000000000000) (hl : (gD r t i j c d).length ≤ 12) :
    Ev (fun k => spec_LeastWithProduct.f k ((prD r t i j c d : Nat) : Int)) (((max 1 (numL 0 (gD r t i j c d)) : Nat) : Int), true) := by
  have hpos : 1 ≤ prD r t i j c d := by
    unfold prD
    have h1 : ∀ b n : Nat, 1 ≤ b → 1 ≤ b ^ n := fun b n h => Nat.one_le_pow _ _ h
    have h2 : ∀ a b : Nat, 1 ≤ a → 1 ≤ b → 1 ≤ a * b := fun a b h h' => Nat.mul_pos h h'
    exact h2 _ _ (h2 _ _ (h2 _ _ (h2 _ _ (h2 _ _ (h1 _ _ (by omega)) (h1 _ _ (by omega))) (h1 _ _ (by omega))) (h1 _ _ (by omega))) (h1 _ _ (by omega))) (h1 _ _ (by omega))
  have hlen : c + d + i + j ≤ 12 := by
    have : (gD r t i j c d).length = (lowD r t).length + (c + ((midD r t).length + (d + (i + j)))) := by simp [gD]
    omega
  unfold spec_LeastWithProduct.f
  rw [l1In_eq]
  simp only [Option.bind_some]
  · refine ev_pos (by simp; omega) ?_
    have e9 : prD r t i j c d = prD r t i 0 c d * 9 ^ j := by unfold prD; grind
    have e8 : prD r t i 0 c d = prD r t 0 0 c d * 8 ^ i := by unfold prD; grind
    have e7 : prD r t 0 0 c d = prD r t 0 0 c 0 * 7 ^ d := by unfold prD; grind
    have b8 : prD r t i 0 c d ≤ prD r t i j c d := by rw [e9]; exact Nat.le_mul_of_pos_right _ (Nat.pow_pos (by omega))
    have b7 : prD r t 0 0 c d ≤ prD r t i 0 c d := by rw [e8]; exact Nat.le_mul_of_pos_right _ (Nat.pow_pos (by omega))
    have b6 : prD r t 0 0 c 0 ≤ prD r t 0 0 c d := by rw [e7]; exact Nat.le_mul_of_pos_right _ (Nat.pow_pos (by omega))
    have s0 : (0 : Int) = ((numL 0 [] : Nat) : Int) := rfl
    have s1 : (1 : Int) = ((10 ^ ([] : List Nat).length : Nat) : Int) := rfl
    rw [s0, s1, e9]
    refine slwp_digit 9 (prD r t i 0 c d) j [] _ (fun x hx => by first | (simp only [List.mem_append, List.mem_replicate, List.not_mem_nil, or_false] at hx; omega) | simp at hx) (by omega) (no9 r t i c d hr ht) (by omega) (by first | (simp; omega) | simp) ?_
    rw [e8]
    refine slwp_digit 8 (prD r t 0 0 c d) i _ _ (fun x hx => by first | (simp only [List.mem_append, List.mem_replicate, List.not_mem_nil, or_false] at hx; omega) | simp at hx) (by omega) (no8 r t c d hr ht) (by omega) (by first | (simp; omega) | simp) ?_
    rw [e7]
    refine slwp_digit 7 (prD r t 0 0 c 0) d _ _ (fun x hx => by first | (simp only [List.mem_append, List.mem_replicate, List.not_mem_nil, or_false] at hx; omega) | simp at hx) (by omega) (no7 r t c) (by omega) (by first | (simp; omega) | simp) ?_
    have hcase : (r = 0 ∨ r = 1 ∨ r = 2) ∧ (t = 0 ∨ t = 1) := by omega
    obtain ⟨hr1, ht1⟩ := hcase
    have fin : ∀ (n6 n4 n3 n2 : Nat), n6 ≤ 1 → n4 ≤ 1 → n3 ≤ 1 → n2 ≤ 1 → 2 ^ r * 3 ^ t = 2 ^ n2 * 3 ^ n3 * 4 ^ n4 * 6 ^ n6 → (n6 = 1 ∨ r = 0 ∨ t = 0) → n2 + n3 + n4 ≤ 1 →
        gD r t i j c d = List.replicate n2 2 ++ (List.replicate n3 3 ++ (List.replicate n4 4 ++ (List.replicate c 5 ++ (List.replicate n6 6 ++ (List.replicate d 7 ++ (List.replicate i 8 ++ (List.replicate j 9 ++ []))))))) →
        Ev (fun k => spec_LeastWithProduct.l0 k ((prD r t 0 0 c 0 : Nat) : Int) ((numL 0 (List.replicate d 7 ++ (List.replicate i 8 ++ (List.replicate j 9 ++ []))) : Nat) : Int) ((10 ^ (List.replicate d 7 ++ (List.replicate i 8 ++ (List.replicate j 9 ++ []))).length : Nat) : Int) ((7 : Nat) - 1 : Int)) (((max 1 (numL 0 (gD r t i j c d)) : Nat) : Int), true) := by
      intro n6 n4 n3 n2 l6 l4 l3 l2 hm h6 hs hg
      have f6 : prD r t 0 0 c 0 = (2 ^ n2 * 3 ^ n3 * 4 ^ n4 * 5 ^ c) * 6 ^ n6 := by unfold prD; grind
      have hX : 2 ^ n2 * 3 ^ n3 * 4 ^ n4 = 1 ∨ 2 ^ n2 * 3 ^ n3 * 4 ^ n4 = 2 ∨ 2 ^ n2 * 3 ^ n3 * 4 ^ n4 = 3 ∨ 2 ^ n2 * 3 ^ n3 * 4 ^ n4 = 4 := by
        have q4 : n4 = 0 ∨ n4 = 1 := by omega
        have q3 : n3 = 0 ∨ n3 = 1 := by omega
        have q2 : n2 = 0 ∨ n2 = 1 := by omega
        rcases q4 with rfl | rfl <;> rcases q3 with rfl | rfl <;> rcases q2 with rfl | rfl <;> first | omega | simp
      have z6 : (2 ^ n2 * 3 ^ n3 * 4 ^ n4 * 5 ^ c) % 6 ≠ 0 := by
        have k2 := nz_pow 2 5 (by omega) (2 ^ n2 * 3 ^ n3 * 4 ^ n4) c
        have k3 := nz_pow 3 5 (by omega) (2 ^ n2 * 3 ^ n3 * 4 ^ n4) c
        rcases hX with h | h | h | h <;> rw [h] at k2 k3 ⊢ <;> first | (have := k2 (by decide); omega) | (have := k3 (by decide); omega)
      have z5 : (2 ^ n2 * 3 ^ n3 * 4 ^ n4) % 5 ≠ 0 := by rcases hX with h | h | h | h <;> rw [h] <;> decide
      have c5 : 2 ^ n2 * 3 ^ n3 * 4 ^ n4 * 5 ^ c ≤ prD r t 0 0 c 0 := by rw [f6]; exact Nat.le_mul_of_pos_right _ (Nat.pow_pos (by omega))
      rw [f6]
      refine slwp_digit 6 _ n6 _ _ (fun x hx => by first | (simp only [List.mem_append, List.mem_replicate, List.not_mem_nil, or_false] at hx; omega) | simp at hx) (by omega) z6 (by omega) (by first | (simp; omega) | simp) ?_
      refine slwp_digit 5 _ c _ _ (fun x hx => by first | (simp only [List.mem_append, List.mem_replicate, List.not_mem_nil, or_false] at hx; omega) | simp at hx) (by omega) z5 (by omega) (by first | (simp; omega) | simp) ?_
      refine slwp_digit 4 (2 ^ n2 * 3 ^ n3) n4 _ _ (fun x hx => by first | (simp only [List.mem_append, List.mem_replicate, List.not_mem_nil, or_false] at hx; omega) | simp at hx) (by omega) ?_ (by omega) (by first | (simp; omega) | simp) ?_
      · have q3 : n3 = 0 ∨ n3 = 1 := by omega
        have q2 : n2 = 0 ∨ n2 = 1 := by omega
        rcases q3 with rfl | rfl <;> rcases q2 with rfl | rfl <;> decide
      refine slwp_digit 3 (2 ^ n2) n3 _ _ (fun x hx => by first | (simp only [List.mem_append, List.mem_replicate, List.not_mem_nil, or_false] at hx; omega) | simp at hx) (by omega) ?_ ?_ (by first | (simp; omega) | simp) ?_
      · have q2 : n2 = 0 ∨ n2 = 1 := by omega
        rcases q2 with rfl | rfl <;> decide
      · have q3 : n3 = 0 ∨ n3 = 1 := by omega
        have q2 : n2 = 0 ∨ n2 = 1 := by omega
        rcases q3 with rfl | rfl <;> rcases q2 with rfl | rfl <;> decide
      have t2 : 2 ^ n2 = 1 * 2 ^ n2 := by rw [Nat.one_mul]
      rw [t2]
      refine slwp_digit 2 1 n2 _ _ (fun x hx => by first | (simp only [List.mem_append, List.mem_replicate, List.not_mem_nil, or_false] at hx; omega) | simp at hx) (by omega) (by decide) ?_ (by first | (simp; omega) | simp) ?_
      · have q2 : n2 = 0 ∨ n2 = 1 := by omega
        rcases q2 with rfl | rfl <;> decide
      rw [← hg]
      exact slwp_end _ (gD_ok _ _ _ _ _ _) hl
    rcases hr1 with rfl | rfl | rfl <;> rcases ht1 with rfl | rfl
    · exact fin 0 0 0 0 (by omega) (by omega) (by omega) (by omega) (by decide) (by omega) (by omega) (by simp [gD, lowD, midD])
    · exact fin 0 0 1 0 (by omega) (by omega) (by omega) (by omega) (by decide) (by omega) (by omega) (by simp [gD, lowD, midD])
    · exact fin 0 0 0 1 (by omega) (by omega) (by omega) (by omega) (by decide) (by omega) (by omega) (by simp [gD, lowD, midD])
    · exact fin 1 0 0 0 (by omega) (by omega) (by omega) (by omega) (by decide) (by omega) (by omega) (by simp [gD, lowD, midD])
    · exact fin 0 1 0 0 (by omega) (by omega) (by omega) (by omega) (by decide) (by omega) (by omega) (by simp [gD, lowD, midD])
    · exact fin 1 0 0 1 (by omega) (by omega) (by omega) (by omega) (by decide) (by omega) (by omega) (by simp [gD, lowD, midD])

/-! ### choices out of bytes: each of them is made -/
def Bytes (l : List Int) : Prop := ∀ x ∈ l, (Lit.int .u8 x).wf = true
theorem byte_range {l : List Int} (h : Bytes l) {i : Int} (h0 : 0 ≤ i) (h1 : i < (l.length : Int)) : 0 ≤ rd l i ∧ rd l i ≤ 255 := by
  have hm : rd l i ∈ l := by
    unfold rd
    rw [List.getD_eq_getElem?_getD, List.getElem?_eq_getElem (by omega)]
    exact List.getElem_mem _
  have := h _ hm
  have h2 := by simpa only [Lit.wf, Bool.and_eq_true, decide_eq_true_eq] using this
  exact ⟨h2.1, h2.2⟩
theorem and255 (x : Int) (h0 : 0 ≤ x) (h1 : x < 18446744073709551616) : 0 ≤ Go.bits .and .u64 x 255 ∧ Go.bits .and .u64 x 255 ≤ 255 := by
  obtain ⟨n, rfl⟩ : ∃ n : Nat, x = (n : Int) := ⟨x.toNat, by omega⟩
  have h := bits_and_u64_nat n 255 (by omega) (by omega)
  have h2 := Nat.and_le_right (n := n) (m := 255)
  rw [show ((255 : Nat) : Int) = 255 from rfl] at h
  rw [h]
  omega
theorem u64_range (x : Int) : 0 ≤ IntKind.u64.wrap x ∧ IntKind.u64.wrap x < 18446744073709551616 := by
  rw [IntKind.wrap_u64]; omega
theorem tail255 (x : Int) : ∃ v, wrap64 (Go.bits .and .u64 (IntKind.u64.wrap x / 1099511627776) 255) = v ∧ 0 ≤ v ∧ v ≤ 255 := by
  have h := u64_range x
  have h2 := and255 (IntKind.u64.wrap x / 1099511627776) (by omega) (by omega)
  exact ⟨_, wrap_of (by omega) (by omega), h2.1, h2.2⟩
theorem next_ok (l : List Int) (hl : Bytes l) (a s : Int) (h0 : 0 ≤ a) (h1 : a ≤ 1000000000000) : ∃ v s', spec_l1Cur_next.f l a s = some (v, a + 1, s') ∧ 0 ≤ v ∧ v ≤ 255 := by
  unfold spec_l1Cur_next.f
  have hw : wrap64 (a + 1) = a + 1 := wrap_of (by omega) (by omega)
  rw [hw]
  by_cases c : a < (l.length : Int)
  · have hb := byte_range hl h0 c
    rw [if_pos c, if_pos h0, if_pos (by omega), wrap_of (x := rd l a) (by omega) (by omega)]
    exact ⟨_, _, rfl, hb.1, hb.2⟩
  · rw [if_neg c, if_neg (by omega)]
    obtain ⟨v, hv, g⟩ := tail255 (IntKind.u64.wrap (IntKind.u64.wrap (s * 6364136223846793005)) + 1442695040888963407)
    rw [hv]
    exact ⟨v, _, rfl, g.1, g.2⟩
theorem tmod_range {x n : Int} (h0 : 0 ≤ x) (hn : 0 < n) : 0 ≤ Int.tmod x n ∧ Int.tmod x n < n := by
  rw [Int.tmod_eq_emod_of_nonneg h0]
  exact ⟨Int.emod_nonneg _ (by omega), Int.emod_lt_of_pos _ hn⟩
theorem pick_ok (l : List Int) (hl : Bytes l) (a s n : Int) (h0 : 0 ≤ a) (h1 : a ≤ 900000000000) : ∃ v a' s', spec_l1Cur_pick.f l a s n = some (v, a', s') ∧ 0 ≤ v ∧ (v < n ∨ v = 0) ∧ a ≤ a' ∧ a' ≤ a + 2 := by
  unfold spec_l1Cur_pick.f
  by_cases c : n ≤ 1
  · rw [if_pos c]
    exact ⟨0, a, s, rfl, Int.le_refl 0, .inr rfl, Int.le_refl a, by omega⟩
  · rw [if_neg c]
    obtain ⟨v, s1, hv, v0, v1⟩ := next_ok l hl a s h0 (by omega)
    rw [hv]
    simp only [Option.bind_some]
    by_cases c2 : n > 200
    · rw [if_pos c2]
      obtain ⟨u, s2, hu, u0, u1⟩ := next_ok l hl (a + 1) s1 (by omega) (by omega)
      rw [hu]
      simp only [Option.bind_some]
      rw [if_neg (by omega), wrap_of (x := v * 256) (by omega) (by omega), wrap_of (x := v * 256 + u) (by omega) (by omega)]
      have ht := tmod_range (x := v * 256 + u) (n := n) (by omega) (by omega)
      exact ⟨_, _, _, rfl, ht.1, .inl ht.2, by omega, by omega⟩
    · rw [if_neg c2, if_neg (by omega)]
      have ht := tmod_range (x := v) (n := n) v0 (by omega)
      exact ⟨_, _, _, rfl, ht.1, .inl ht.2, by omega, by omega⟩
theorem among_ok (l : List Int) (hl : Bytes l) (a s : Int) (m : List Int) (hm : 0 < m.length) (h0 : 0 ≤ a) (h1 : a ≤ 900000000000) : ∃ v a' s', spec_l1Cur_among.f l a s m = some (v, a', s') ∧ v ∈ m ∧ a ≤ a' ∧ a' ≤ a + 2 := by
  unfold spec_l1Cur_among.f
  obtain ⟨v, a', s', hv, v0, v1, g⟩ := pick_ok l hl a s (m.length : Int) h0 h1
  rw [hv]
  simp only [Option.bind_some]
  have hlt : v < (m.length : Int) := by rcases v1 with h | h <;> omega
  rw [if_pos v0, if_pos hlt]
  refine ⟨_, a', s', rfl, ?_, g⟩
  unfold rd
  rw [List.getD_eq_getElem?_getD, List.getElem?_eq_getElem (by omega)]
  exact List.getElem_mem _
theorem one_ok (l : List Int) (hl : Bytes l) (a s n : Int) (h0 : 0 ≤ a) (h1 : a ≤ 900000000000) : ∃ v a' s', spec_l1Cur_one.f l a s n = some (v, a', s') ∧ a ≤ a' ∧ a' ≤ a + 2 := by
  unfold spec_l1Cur_one.f
  obtain ⟨v, a', s', hv, _, _, g⟩ := pick_ok l hl a s n h0 h1
  rw [hv]
  exact ⟨_, a', s', rfl, g⟩

/-! ### a number that is drawn (out of losE) -/
theorem least_ok (l : List Int) (hl : Bytes l) (a s : Int) (h0 : 0 ≤ a) (h1 : a ≤ 800000000000) : ∃ v a' s', spec_l1Cur_least.f l a s = some (v, a', s') := by
  unfold spec_l1Cur_least.f
  obtain ⟨x, a1, s1, hx, _, _, g1, g2⟩ := pick_ok l hl a s 10 h0 (by omega)
  rw [hx]
  simp only [Option.bind_some]
  by_cases c : x = 0
  · rw [if_pos c]
    obtain ⟨y, a2, s2, hy, _⟩ := among_ok l hl a1 s1 [(-1), 0, 1, 9, 10, 999999999999, 1000000000000, 1000000000001, 4611686018427387904] (by decide) (by omega) (by omega)
    rw [hy]
    exact ⟨_, a2, s2, rfl⟩
  · rw [if_neg c]
    by_cases c1 : x = 1
    · rw [if_pos c1]
      obtain ⟨y1, a2, s2, e1, _, _, f1, f2⟩ := pick_ok l hl a1 s1 250 (by omega) (by omega)
      rw [e1]; simp only [Option.bind_some]
      obtain ⟨y2, a3, s3, e2, _, _, f3, f4⟩ := pick_ok l hl a2 s2 250 (by omega) (by omega)
      rw [e2]; simp only [Option.bind_some]
      obtain ⟨y3, a4, s4, e3, _, _, f5, f6⟩ := pick_ok l hl a3 s3 250 (by omega) (by omega)
      rw [e3]; simp only [Option.bind_some]
      obtain ⟨y4, a5, s5, e4, _, _, f7, f8⟩ := pick_ok l hl a4 s4 250 (by omega) (by omega)
      rw [e4]; simp only [Option.bind_some]
      obtain ⟨y5, a6, s6, e5, _⟩ := pick_ok l hl a5 s5 250 (by omega) (by omega)
      rw [e5]
      exact ⟨_, _, _, rfl⟩
    · rw [if_neg c1]
      by_cases c2 : x = 2
      · rw [if_pos c2]
        obtain ⟨y1, a2, s2, e1, _, _, f1, f2⟩ := pick_ok l hl a1 s1 250 (by omega) (by omega)
        rw [e1]; simp only [Option.bind_some]
        obtain ⟨y2, a3, s3, e2, _⟩ := pick_ok l hl a2 s2 12 (by omega) (by omega)
        rw [e2]
        exact ⟨_, _, _, rfl⟩
      · rw [if_neg c2]
        obtain ⟨y1, a2, s2, e1, _, _, f1, f2⟩ := pick_ok l hl a1 s1 250 (by omega) (by omega)
        rw [e1]; simp only [Option.bind_some]
        obtain ⟨y2, a3, s3, e2, _⟩ := pick_ok l hl a2 s2 40 (by omega) (by omega)
        rw [e2]
        exact ⟨_, _, _, rfl⟩
theorem dNext_ok (l : List Int) (hl : Bytes l) : ∃ v, spec_DrawNextWithSum.f l = some v := by
  obtain ⟨v, a, s, h⟩ := least_ok l hl 0 0 (by omega) (by omega)
  unfold spec_DrawNextWithSum.f
  rw [h]
  exact ⟨_, rfl⟩

/-! ### what else is drawn -/
theorem divs_one (n : Nat) (h : n < 80) : ((n : Int) + 1) ∈ divs := by
  have : ∀ n : Nat, n < 80 → ((n : Int) + 1) ∈ divs := by decide
  exact this n h
theorem divs_among (v : Int) (h : v ∈ ([(-1), 0, 1, 400, 401, 4611686018427387904] : List Int)) : v ∈ divs := List.mem_append_left (bs := [1, 2, 3, 4, 5, 6, 7, 8, 9, 10, 11, 12, 13, 14, 15, 16, 17, 18, 19, 20, 21, 22, 23, 24, 25, 26, 27, 28, 29, 30, 31, 32, 33, 34, 35, 36, 37, 38, 39, 40, 41, 42, 43, 44, 45, 46, 47, 48, 49, 50, 51, 52, 53, 54, 55, 56, 57, 58, 59, 60, 61, 62, 63, 64, 65, 66, 67, 68, 69, 70, 71, 72, 73, 74, 75, 76, 77, 78, 79, 80]) h
theorem manys_one (n : Nat) (h : n < 40) : ((n : Int) + 1) ∈ manys := by
  have : ∀ n : Nat, n < 40 → ((n : Int) + 1) ∈ manys := by decide
  exact this n h
theorem manys_among (v : Int) (h : v ∈ ([(-1), 0, 1, 999999999999, 1000000000000, 1000000000001] : List Int)) : v ∈ manys := List.mem_append_left (bs := [1, 2, 3, 4, 5, 6, 7, 8, 9, 10, 11, 12, 13, 14, 15, 16, 17, 18, 19, 20, 21, 22, 23, 24, 25, 26, 27, 28, 29, 30, 31, 32, 33, 34, 35, 36, 37, 38, 39, 40]) h
theorem divisor_ok (l : List Int) (hl : Bytes l) (a s : Int) (h0 : 0 ≤ a) (h1 : a ≤ 800000000000) : ∃ v a' s', spec_l1Cur_divisor.f l a s = some (v, a', s') ∧ v ∈ divs ∧ a ≤ a' ∧ a' ≤ a + 4 := by
  unfold spec_l1Cur_divisor.f
  obtain ⟨x, a1, s1, hx, g1, g2⟩ := one_ok l hl a s 9 h0 (by omega)
  rw [hx]
  simp only [Option.bind_some]
  by_cases c : x = true
  · rw [if_pos c]
    obtain ⟨y, a2, s2, hy, hm, e1, e2⟩ := among_ok l hl a1 s1 [(-1), 0, 1, 400, 401, 4611686018427387904] (by decide) (by omega) (by omega)
    rw [hy]
    exact ⟨_, a2, s2, rfl, divs_among y hm, by omega, by omega⟩
  · rw [if_neg c]
    obtain ⟨y, a2, s2, hy, y0, y1, e1, e2⟩ := pick_ok l hl a1 s1 80 (by omega) (by omega)
    rw [hy]
    simp only [Option.bind_some]
    have hm := divs_one y.toNat (by omega)
    rw [show ((y.toNat : Nat) : Int) + 1 = wrap64 (1 + y) by rw [wrap_of (by omega) (by omega)]; omega] at hm
    exact ⟨_, a2, s2, rfl, hm, by omega, by omega⟩
theorem of_ok (l : List Int) (hl : Bytes l) (a s : Int) (m : List ByteArray) (hm : 0 < m.length) (h0 : 0 ≤ a) (h1 : a ≤ 900000000000) : ∃ v a' s', spec_l1Cur_of.f l a s m = some (v, a', s') ∧ v ∈ m := by
  unfold spec_l1Cur_of.f
  obtain ⟨v, a', s', hv, v0, v1, g⟩ := pick_ok l hl a s (m.length : Int) h0 h1
  rw [hv]
  simp only [Option.bind_some]
  have hlt : v < (m.length : Int) := by rcases v1 with h | h <;> omega
  rw [if_pos v0, if_pos hlt]
  refine ⟨_, a', s', rfl, ?_⟩
  unfold rdOf
  rw [List.getD_eq_getElem?_getD, List.getElem?_eq_getElem (by omega)]
  exact List.getElem_mem _
theorem dLM_ok (l : List Int) (hl : Bytes l) : ∃ m s, spec_DrawLeastMultiple.f l = some (m, s) ∧ m ∈ divs ∧ s ∈ txts := by
  unfold spec_DrawLeastMultiple.f
  obtain ⟨x, a1, s1, hx, hm, g1, g2⟩ := divisor_ok l hl 0 0 (by omega) (by omega)
  rw [hx]
  simp only [Option.bind_some]
  obtain ⟨v, a2, s2, hv, hs⟩ := of_ok l hl a1 s1 txts (by decide) (by omega) (by omega)
  unfold txts at hv
  rw [hv]
  exact ⟨_, _, rfl, hm, hs⟩
theorem dDM_ok (l : List Int) (hl : Bytes l) : ∃ k, spec_DrawDigitsForMultiple.f l = some k ∧ k ∈ divs := by
  unfold spec_DrawDigitsForMultiple.f
  obtain ⟨x, a1, s1, hx, hm, g1, g2⟩ := divisor_ok l hl 0 0 (by omega) (by omega)
  rw [hx]
  exact ⟨_, rfl, hm⟩
theorem dRO_ok (l : List Int) (hl : Bytes l) : ∃ d m, spec_DrawRestOfOnes.f l = some (d, m) ∧ d ∈ divs ∧ m ∈ manys := by
  unfold spec_DrawRestOfOnes.f
  obtain ⟨x, a1, s1, hx, g1, g2⟩ := one_ok l hl 0 0 6 (by omega) (by omega)
  rw [hx]
  simp only [Option.bind_some]
  obtain ⟨d, a2, s2, hd, hm, g3, g4⟩ := divisor_ok l hl a1 s1 (by omega) (by omega)
  rw [hd]
  simp only [Option.bind_some]
  by_cases c : x = true
  · rw [if_pos c]
    obtain ⟨y, a3, s3, hy, hy2, e1, e2⟩ := among_ok l hl a2 s2 [(-1), 0, 1, 999999999999, 1000000000000, 1000000000001] (by decide) (by omega) (by omega)
    rw [hy]
    exact ⟨_, _, rfl, hm, manys_among y hy2⟩
  · rw [if_neg c]
    obtain ⟨y, a3, s3, hy, y0, y1, e1, e2⟩ := pick_ok l hl a2 s2 40 (by omega) (by omega)
    rw [hy]
    have hy2 := manys_one y.toNat (by omega)
    rw [show ((y.toNat : Nat) : Int) + 1 = wrap64 (1 + y) by rw [wrap_of (by omega) (by omega)]; omega] at hy2
    exact ⟨_, _, rfl, hm, hy2⟩
def prods (p : Int) : Prop := p ∈ ([(-1), 0, 1, 11, 1000000000000, 1000000000001] : List Int) ∨ ∃ L : List Nat, okD L ∧ L.length ≤ 8 ∧ p = (lpN L : Int)
theorem lpN_le (L : List Nat) (h : okD L) : lpN L ≤ 9 ^ L.length := by
  induction L with
  | nil => simp [lpN]
  | cons d L ih =>
    have h1 := ih (fun x hx => h x (List.mem_cons_of_mem _ hx))
    have h2 := (h d List.mem_cons_self).2
    rw [lpN, List.length_cons, Nat.pow_succ, Nat.mul_comm (9 ^ _) 9]
    exact Nat.mul_le_mul h2 h1
theorem dLP_loop (l : List Int) (hl : Bytes l) : ∀ (n : Nat) (L : List Nat) (a s : Int), okD L → L.length + n ≤ 8 → 0 ≤ a → a + 2 * n ≤ 800000000000 → ∃ v, Ev (fun k => spec_DrawLeastWithProduct.l0 k (lpN L : Int) (n : Int) l a s) v ∧ prods v := by
  intro n
  induction n with
  | zero =>
    intro L a s hok hlen h0 h1
    refine ⟨(lpN L : Int), ev_succ ?_, .inr ⟨L, hok, by omega, rfl⟩⟩
    simp only [spec_DrawLeastWithProduct.l0]
    exact ev_neg (by omega) (ev_eq fun _ => rfl)
  | succ n ih =>
    intro L a s hok hlen h0 h1
    obtain ⟨z, a2, s2, hz, z0, z1, e1, e2⟩ := pick_ok l hl a s 9 (by omega) (by omega)
    have hok2 : okD ((z.toNat + 1) :: L) := fun x hx => by rcases List.mem_cons.mp hx with rfl | hx; omega; exact hok x hx
    obtain ⟨v, hv, hp⟩ := ih ((z.toNat + 1) :: L) a2 s2 hok2 (by simp; omega) (by omega) (by omega)
    refine ⟨v, ev_succ ?_, hp⟩
    simp only [spec_DrawLeastWithProduct.l0]
    have hb := lpN_le _ hok2
    have h9 : 9 ^ ((z.toNat + 1) :: L).length ≤ 9 ^ 8 := Nat.pow_le_pow_right (by omega) (by simp; omega)
    have hw : wrap64 ((lpN L : Int) * wrap64 (1 + z)) = (lpN ((z.toNat + 1) :: L) : Int) := by
      rw [wrap_of (x := 1 + z) (by omega) (by omega)]
      have e : (lpN L : Int) * (1 + z) = (lpN ((z.toNat + 1) :: L) : Int) := by
        rw [lpN, Int.natCast_mul, Int.mul_comm, show ((z.toNat + 1 : Nat) : Int) = 1 + z by omega]
      rw [e]; exact wrap_of (by omega) (by omega)
    refine ev_pos (by omega) (ev_bind hz ?_)
    rw [hw, show wrap64 (((n + 1 : Nat) : Int) - 1) = (n : Int) by rw [wrap_of (by omega) (by omega)]; omega]
    exact hv
theorem dLP_ok (l : List Int) (hl : Bytes l) : ∃ v, Ev (fun k => spec_DrawLeastWithProduct.f k l) v ∧ prods v := by
  unfold spec_DrawLeastWithProduct.f
  obtain ⟨x, a1, s1, hx, g1, g2⟩ := one_ok l hl 0 0 6 (by omega) (by omega)
  rw [hx]
  simp only [Option.bind_some]
  by_cases c : x = true
  · simp only [if_pos c]
    obtain ⟨y, a2, s2, hy, hm, e1, e2⟩ := among_ok l hl a1 s1 [(-1), 0, 1, 11, 1000000000000, 1000000000001] (by decide) (by omega) (by omega)
    rw [hy]
    exact ⟨_, ev_eq fun _ => rfl, .inl hm⟩
  · simp only [if_neg c]
    obtain ⟨y, a2, s2, hy, y0, y1, e1, e2⟩ := pick_ok l hl a1 s1 9 (by omega) (by omega)
    rw [hy]
    simp only [Option.bind_some]
    obtain ⟨n, rfl⟩ : ∃ n : Nat, y = (n : Int) := ⟨y.toNat, by omega⟩
    exact dLP_loop l hl n [] a2 s2 (fun x hx => by simp at hx) (by simp; omega) (by omega) (by omega)

/-! ### the least number with a product, both sides -/
theorem lpN_rep (n a : Nat) : lpN (List.replicate n a) = a ^ n := by
  induction n with
  | zero => simp [lpN]
  | succ n ih => rw [List.replicate_succ, lpN, ih, Nat.pow_succ, Nat.mul_comm]
theorem lpN_gD (r t i j c d : Nat) (hr : r < 3) (ht : t < 2) : lpN (gD r t i j c d) = prD r t i j c d := by
  unfold gD prD
  rw [lpN_append, lpN_append, lpN_append, lpN_append, lpN_append, lpN_rep, lpN_rep, lpN_rep, lpN_rep]
  have hcase : (r = 0 ∨ r = 1 ∨ r = 2) ∧ (t = 0 ∨ t = 1) := by omega
  obtain ⟨hr1, ht1⟩ := hcase
  rcases hr1 with rfl | rfl | rfl <;> rcases ht1 with rfl | rfl <;> simp [lowD, midD, lpN] <;> grind
theorem gD_len8 (r t i j c d : Nat) (L : List Nat) (hL : okD L) (h8 : L.length ≤ 8) (h : numL 0 (gD r t i j c d) ≤ numL 0 L) : (gD r t i j c d).length ≤ 8 := by
  have hg := gD_ok r t i j c d
  have hup := numL_up L hL
  have h12 : 10 ^ L.length ≤ 10 ^ 8 := Nat.pow_le_pow_right (by omega) h8
  cases hG : gD r t i j c d with
  | nil => simp
  | cons x X =>
    rw [hG] at hg h
    have a1 := numL_lo x 1 X (hg x List.mem_cons_self).1
    rw [Nat.one_mul] at a1
    by_cases q : X.length < 8
    · simp only [List.length_cons]; omega
    · have : 10 ^ 8 ≤ 10 ^ X.length := Nat.pow_le_pow_right (by omega) (by omega)
      omega
theorem prL_lp (L : List Nat) : prL (toI L) = (lpN L : Int) := by
  have : ∀ (L : List Nat) (a : Int), (toI L).foldl (· * ·) a = a * (lpN L : Int) := by
    intro L
    induction L with
    | nil => intro a; simp [toI, lpN]
    | cons x L ih =>
      intro a
      have := ih (a * (x : Int))
      simp only [toI, List.map_cons, List.foldl_cons, lpN] at this ⊢
      rw [this, Int.natCast_mul, Int.mul_assoc]
  have h := this L 1
  unfold prL
  rw [h, Int.one_mul]
theorem prN_num (L : List Nat) (h : okD L) (h1 : L ≠ []) : prN (numL 0 L) = lpN L := by
  have hd : digL (toI L) := fun x hx => by
    obtain ⟨y, hy, rfl⟩ := List.mem_map.mp hx
    have := h y hy
    omega
  have hl : lead (toI L) := by
    cases L with
    | nil => exact absurd rfl h1
    | cons x L => exact ⟨(x : Int), toI L, rfl, .inl (by have := h x List.mem_cons_self; omega)⟩
  have e := dI_val hd hl
  have hv := val_numL L 0
  rw [show ((0 : Nat) : Int) = 0 from rfl] at hv
  rw [hv, Int.toNat_natCast] at e
  have h2 := prN_eq (numL 0 L)
  rw [e, prL_lp] at h2
  omega
theorem iLWP_top (k : Nat) (hk : 60 ≤ k) (p : Int) : LeO (impl_LeastWithProduct.f 60 p) (impl_LeastWithProduct.f k p) := by
  induction hk with
  | refl => exact LeO.refl _
  | step _ ih => exact LeO.trans ih (impl_LeastWithProduct.mono _ _)
theorem sLWP_top (k : Nat) (hk : 60 ≤ k) (p : Int) : LeO (spec_LeastWithProduct.f 60 p) (spec_LeastWithProduct.f k p) := by
  induction hk with
  | refl => exact LeO.refl _
  | step _ ih => exact LeO.trans ih (spec_LeastWithProduct.mono _ _)
/-- what both tell of a product that is drawn -/
theorem LWP_all (p : Int) (h : prods p) : ∃ o : Int × Bool, Ev (fun k => impl_LeastWithProduct.f k p) o ∧ Ev (fun k => spec_LeastWithProduct.f k p) o ∧ (o.2 = false ∨ ∃ m : Nat, 1 ≤ m ∧ m ≤ 1000000000000 ∧ o = ((m : Int), true) ∧ p = (prN m : Int)) := by
  rcases h with h | ⟨L, hL, h8, rfl⟩
  · have kk : ∀ (o : Int × Bool), impl_LeastWithProduct.f 60 p = some o → spec_LeastWithProduct.f 60 p = some o → Ev (fun k => impl_LeastWithProduct.f k p) o ∧ Ev (fun k => spec_LeastWithProduct.f k p) o :=
      fun o h1 h2 => ⟨⟨60, fun k hk => iLWP_top k hk p _ h1⟩, ⟨60, fun k hk => sLWP_top k hk p _ h2⟩⟩
    simp only [List.mem_cons, List.not_mem_nil, or_false] at h
    rcases h with rfl | rfl | rfl | rfl | rfl | rfl
    · obtain ⟨a, b⟩ := kk (0, false) (by kernel_rfl) (by kernel_rfl); exact ⟨_, a, b, .inl rfl⟩
    · obtain ⟨a, b⟩ := kk (0, false) (by kernel_rfl) (by kernel_rfl); exact ⟨_, a, b, .inl rfl⟩
    · obtain ⟨a, b⟩ := kk (1, true) (by kernel_rfl) (by kernel_rfl); exact ⟨_, a, b, .inr ⟨1, by omega, by omega, rfl, by rw [prN_eq, dI_small (by omega)]; rfl⟩⟩
    · obtain ⟨a, b⟩ := kk (0, false) (by kernel_rfl) (by kernel_rfl); exact ⟨_, a, b, .inl rfl⟩
    · obtain ⟨a, b⟩ := kk (0, false) (by kernel_rfl) (by kernel_rfl); exact ⟨_, a, b, .inl rfl⟩
    · obtain ⟨a, b⟩ := kk (0, false) (by kernel_rfl) (by kernel_rfl); exact ⟨_, a, b, .inl rfl⟩
  · obtain ⟨r, t, i, j, c, d, hr, ht, hP, hv⟩ := gD_least L.length L rfl hL
    have hlen := gD_len8 r t i j c d L hL h8 hv
    have hb := lpN_le L hL
    have h9 : 9 ^ L.length ≤ 9 ^ 8 := Nat.pow_le_pow_right (by omega) h8
    have hup := numL_up (gD r t i j c d) (gD_ok _ _ _ _ _ _)
    have h10 : 10 ^ (gD r t i j c d).length ≤ 10 ^ 8 := Nat.pow_le_pow_right (by omega) hlen
    have hs := sLWP_ev r t i j c d hr ht (by rw [hP]; omega) (by omega)
    obtain ⟨m, hm, hc⟩ := iLWP_ev r t i j c d hr ht (by rw [hP]; omega) (by omega)
    have hg := lpN_gD r t i j c d hr ht
    rw [hP] at hm hs
    by_cases e : gD r t i j c d = []
    · have hp1 : lpN L = 1 := by rw [← hP, ← hg, e]; rfl
      rw [e] at hs hc
      have hn0 : numL 0 ([] : List Nat) = 0 := rfl
      rw [hn0] at hs hc
      have hm1 : m = 1 := by
        rcases hc with ⟨h, _⟩ | h
        · exact h
        · subst h
          rw [hp1] at hm
          have k1 : impl_LeastWithProduct.f 60 1 = some (1, true) := by kernel_rfl
          obtain ⟨K, hK⟩ := hm
          have a1 := hK (max K 60) (by omega)
          have a2 := iLWP_top (max K 60) (by omega) 1 _ k1
          dsimp only at a1
          rw [show ((1 : Nat) : Int) = 1 from rfl] at a1
          rw [a2] at a1
          simp at a1
      subst hm1
      exact ⟨_, hm, hs, .inr ⟨1, by omega, by omega, rfl, by rw [hp1, prN_eq, dI_small (by omega)]; rfl⟩⟩
    · have hn := prN_num _ (gD_ok r t i j c d) e
      rw [hg, hP] at hn
      have hpos : 1 ≤ numL 0 (gD r t i j c d) := by
        cases hG : gD r t i j c d with
        | nil => exact absurd hG e
        | cons x X =>
          have hk := gD_ok r t i j c d
          rw [hG] at hk
          have a1 := numL_lo x 1 X (hk x List.mem_cons_self).1
          have : 0 < 10 ^ X.length := Nat.pow_pos (by omega)
          omega
      have hmm : m = numL 0 (gD r t i j c d) := by
        rcases hc with ⟨rfl, hp1⟩ | h
        · rw [hP] at hp1
          have h11 : lpN (gD r t i j c d) = 1 := by rw [hg, hP]; exact hp1
          have ha := gD_asc r t i j c d
          cases hG : gD r t i j c d with
          | nil => exact absurd hG e
          | cons x X =>
            rw [hG] at ha h11
            have hx := ha.1
            rw [lpN] at h11
            have := Nat.eq_one_of_mul_eq_one_right h11
            omega
        · exact h
      rw [hmm] at hm
      rw [show max 1 (numL 0 (gD r t i j c d)) = numL 0 (gD r t i j c d) by omega] at hs
      exact ⟨_, hm, hs, .inr ⟨_, hpos, by omega, rfl, by rw [hn]⟩⟩

/-! ### the law -/
theorem bne_self_not (a : Bool) : ¬ (a != a) = true := by simp
theorem least_reach : ∀ (m : Nat) (t : List Int), (val 0 t).toNat ≤ m → digL t → lead t → lead (sw (cs t 10)) ∧ (sw (cs t 10)).Perm t := by
  intro m
  induction m with
  | zero =>
    intro t hm hd hl
    have hno : ∀ t', Stp true t t' → ¬ lead t' := by
      intro t' h _
      have h0 := (Rl_t _ _).mp (stp_val h hd)
      have h1 := val_range t'.length t' 0 (Nat.le_refl _) (stp_dig h hd) (Int.le_refl 0)
      omega
    rw [sw_lead hd hl hno]
    exact ⟨hl, List.Perm.refl _⟩
  | succ m ih =>
    intro t hm hd hl
    by_cases c : ∃ t', Stp true t t' ∧ lead t'
    · obtain ⟨t', h, h2⟩ := c
      have h0 := (Rl_t _ _).mp (stp_val h hd)
      have h1 := val_range t'.length t' 0 (Nat.le_refl _) (stp_dig h hd) (Int.le_refl 0)
      have := ih t' (by omega) (stp_dig h hd) h2
      rw [cs_congr hd (stp_perm h)] at this
      exact ⟨this.1, this.2.trans (stp_perm h)⟩
    · have hno : ∀ t', Stp true t t' → ¬ lead t' := fun t' h h2 => c ⟨t', h, h2⟩
      rw [sw_lead hd hl hno]
      exact ⟨hl, List.Perm.refl _⟩
theorem val_zero (l : List Int) (h : ∀ x ∈ l, x = 0) : val 0 l = 0 := by
  induction l with
  | nil => rfl
  | cons x l ih =>
    have hx := h x List.mem_cons_self
    subst hx
    exact ih (fun y hy => h y (List.mem_cons_of_mem _ hy))
theorem rev_dn (n : Nat) : Dn false (cs (dI n) 10).reverse := by
  unfold Dn
  rw [List.pairwise_reverse]
  exact (cs_sorted (dI n) 10).1.imp (fun {a b} h => by rw [Rl_f]; omega)
theorem rev_perm (n : Nat) : (cs (dI n) 10).reverse.Perm (dI n) := (List.reverse_perm _).trans (cs_permD (dI_range n))
theorem rev_lead (n : Nat) : lead (cs (dI n) 10).reverse := by
  have hp := rev_perm n
  have hd := rev_dn n
  have hg : digL (cs (dI n) 10).reverse := fun x hx => dI_range n x (hp.mem_iff.mp hx)
  have hle := (greatest_le _ (dI n) hd (dI_range n) hp).1
  rw [val_dI] at hle
  cases hu : (cs (dI n) 10).reverse with
  | nil =>
    have := hp.length_eq
    rw [hu, dI_len] at this
    have := dgs_pos n
    simp at *; omega
  | cons x B =>
    rw [hu] at hd hg hle hp
    by_cases c : x = 0
    · subst c
      have hz := val_zero (0 :: B) (fun y hy => by
        rcases List.mem_cons.mp hy with rfl | hy
        · rfl
        · have h1 := (List.pairwise_cons.mp hd).1 y hy
          rw [Rl_f] at h1
          have := hg y (List.mem_cons_of_mem _ hy)
          omega)
      have hn : n = 0 := by omega
      subst hn
      have hl := hp.length_eq
      rw [dI_small (by omega)] at hl
      exact ⟨0, B, rfl, .inr (List.eq_nil_of_length_eq_zero (by simpa using hl))⟩
    · exact ⟨x, B, rfl, .inl c⟩
theorem stp_lead {t t' : List Int} (h : Stp false t t') (hd : digL t) (hl : lead t) : lead t' := by
  have h2 := stp_two h
  obtain ⟨A, x, C, y, E, rfl, _, hr, _, rfl⟩ := h
  obtain ⟨z, B, e, hz⟩ := hl
  cases A with
  | nil =>
    have := (Rl_f _ _).mp hr
    have := hd x (by simp)
    exact ⟨y, _, rfl, .inl (by omega)⟩
  | cons a A =>
    rw [List.cons_append, List.cons.injEq] at e
    obtain ⟨rfl, e⟩ := e
    rcases hz with hz | hz
    · exact ⟨a, _, rfl, .inl hz⟩
    · rw [hz] at e; simp at e
/-- a number that is told: its digits are a list's -/
theorem nat_of {n : Nat} (hn : n ≤ 1000000000000) {t : List Int} (hd : digL t) (hl : lead t) (hp : t.Perm (dI n)) : ∃ m : Nat, val 0 t = (m : Int) ∧ dI m = t := by
  have hv := val_small t (by rw [hp.length_eq]; exact dI_len13 hn) hd
  have e := dI_val hd hl
  exact ⟨(val 0 t).toNat, by omega, e⟩
theorem next_back (n : Nat) (hn : n ≤ 1000000000000) {t' : List Int} (hs : Stp false (dI n) t') : (n : Int) < val 0 t' ∧ Ev (fun k => laws_iDigits.f k (val 0 t')) ((dI n).reverse.foldl inc z10) ∧ Ev (fun k => impl_LastSameDigits.f k (val 0 t')) ((n : Int), true) := by
  have hv := (Rl_f _ _).mp (stp_val hs (dI_range n))
  rw [val_dI] at hv
  have hl := stp_lead hs (dI_range n) (lead_dI n).1
  have hd := stp_dig hs (dI_range n)
  refine ⟨hv, idig_same n hn t' hd hl (stp_perm hs), ?_⟩
  obtain ⟨m, hm, he⟩ := nat_of hn hd hl (stp_perm hs)
  have hsm := next_small hn hs
  obtain ⟨o, h1, _, h3⟩ := last_ev m (by omega)
  have hb := stp_back hs
  rw [he] at h3
  rw [hm]
  rcases h3 with ⟨_, h⟩ | ⟨t2, h, _, rfl⟩
  · exact absurd (lead_dI n).1 (h _ hb)
  · rw [stp_uniq h hb, val_dI] at h1; exact h1
theorem last_back (n : Nat) (hn : n ≤ 1000000000000) {t' : List Int} (hs : Stp true (dI n) t') (hl : lead t') : val 0 t' < (n : Int) ∧ Ev (fun k => laws_iDigits.f k (val 0 t')) ((dI n).reverse.foldl inc z10) ∧ Ev (fun k => impl_NextSameDigits.f k (val 0 t')) ((n : Int), true) := by
  have hv := (Rl_t _ _).mp (stp_val hs (dI_range n))
  rw [val_dI] at hv
  have hd := stp_dig hs (dI_range n)
  refine ⟨hv, idig_same n hn t' hd hl (stp_perm hs), ?_⟩
  obtain ⟨m, hm, he⟩ := nat_of hn hd hl (stp_perm hs)
  obtain ⟨o, h1, _, h3⟩ := next_ev m (by omega)
  have hb : Stp false t' (dI n) := stp_back hs
  rw [he] at h3
  rw [hm]
  rcases h3 with ⟨_, h⟩ | ⟨t2, h, rfl⟩
  · exact (dn_no h hb).elim
  · rw [stp_uniq h hb, val_dI] at h1; exact h1
theorem tail_ev (x56 x57 x58 : Int) (x59 : Bool) (h : x59 = true → x57 < 1000000000000 → x56 ≠ 0 ∧ 0 ≤ x58 ∧ x58 < x56 ∧ Ev (fun k => impl_RestOfOnes.f k x56 (wrap64 (x57 + 1))) (Int.tmod (wrap64 ((wrap64 (10 * x58)) + 1)) x56, true)) :
    Ev (fun k => if x59 = true then (if x57 < 1000000000000 then ((impl_RestOfOnes.f k x56 (wrap64 (x57 + 1))).bind fun bt493 => (if x58 < 0 then (some false) else (if x58 ≥ x56 then (some false) else (if bt493.2 = true then (if x56 = 0 then (none) else (if bt493.1 = (Int.tmod (wrap64 ((wrap64 (10 * x58)) + 1)) x56) then (some true) else (some false))) else (some false))))) else (some true)) else (some true)) true := by
  by_cases c : x59 = true
  · by_cases c2 : x57 < 1000000000000
    · obtain ⟨h1, h2, h3, h4⟩ := h c c2
      exact ev_pos c (ev_pos c2 (Ev.bind h4 (ev_neg (by omega) (ev_neg (by omega) (ev_pos rfl (ev_neg h1 (ev_pos rfl (ev_eq fun _ => rfl))))))))
    · exact ev_pos c (ev_neg c2 (ev_eq fun _ => rfl))
  · exact ev_neg c (ev_eq fun _ => rfl)
/-- what is known of a divisor's ones -/
def onesOk (k ones : Int) (b : Bool) : Prop := b = true → Ev (fun q => impl_RestOfOnes.f q k ones) (0, true) ∧ 1 ≤ ones ∧ ones ≤ k ∧ ∀ i : Int, 1 ≤ i → i < 12 → i < ones → ∃ x, x ≠ 0 ∧ Ev (fun q => impl_RestOfOnes.f q k i) (x, true)
def restOk (x56 x57 x58 : Int) (x59 : Bool) : Prop := x59 = true → x57 < 1000000000000 → x56 ≠ 0 ∧ 0 ≤ x58 ∧ x58 < x56 ∧ Ev (fun k => impl_RestOfOnes.f k x56 (wrap64 (x57 + 1))) (Int.tmod (wrap64 ((wrap64 (10 * x58)) + 1)) x56, true)
theorem l2_ev (x47 x52 x56 x57 x58 : Int) (x59 : Bool) (hO : onesOk x47 x52 true) (hR : restOk x56 x57 x58 x59) : ∀ e i : Nat, i + e = 12 → 1 ≤ i → Ev (fun k => laws_FnLeastOfDigits.l2 k x47 x52 x56 x57 x58 x59 (i : Int)) true := by
  have ht := tail_ev x56 x57 x58 x59 hR
  obtain ⟨_, h2, h3, h4⟩ := hO rfl
  intro e
  induction e with
  | zero =>
    intro i hi h1
    refine ev_succ ?_
    simp only [laws_FnLeastOfDigits.l2]
    by_cases c : (i : Int) < x52
    · exact ev_pos c (ev_neg (by omega) ht)
    · exact ev_neg c ht
  | succ e ih =>
    intro i hi h1
    refine ev_succ ?_
    simp only [laws_FnLeastOfDigits.l2]
    by_cases c : (i : Int) < x52
    · obtain ⟨x, hx, hev⟩ := h4 i (by omega) (by omega) c
      refine ev_pos c (ev_pos (by omega) (Ev.bind hev (ev_pos rfl (ev_neg hx ?_))))
      rw [wrap_nat (by omega)]
      exact ih (i + 1) (by omega) (by omega)
    · exact ev_neg c ht
theorem j9_ev (x47 x52 : Int) (x53 : Bool) (x56 x57 x58 : Int) (x59 : Bool) (hO : onesOk x47 x52 x53) (hR : restOk x56 x57 x58 x59) : Ev (fun k => laws_FnLeastOfDigits.j9 k x47 x52 x53 x56 x57 x58 x59) true := by
  refine ev_succ ?_
  simp only [laws_FnLeastOfDigits.j9]
  by_cases c : x53 = true
  · subst c
    obtain ⟨h1, h2, h3, _⟩ := hO rfl
    exact ev_pos rfl (Ev.bind h1 (ev_neg (by omega) (ev_neg (by omega) (ev_pos rfl (ev_pos rfl (l2_ev x47 x52 x56 x57 x58 x59 hO hR 11 1 (by omega) (by omega)))))))
  · exact ev_neg c (tail_ev x56 x57 x58 x59 hR)
def fewOk (k : Int) (few : ByteArray) (b15 b17 : Bool) : Prop := b15 = true → (∃ t, Ev (fun q => impl_LeastMultiple.f q k few) (t, true)) ∧ 1 ≤ few.size ∧ few.size ≤ 2 ∧ b17 = (!(Int.tmod k 2 == 0) && !(Int.tmod k 5 == 0)) ∧ (b17 = true → few = (⟨#[49]⟩ : ByteArray))
theorem j8_ev (x47 : Int) (x48 : ByteArray) (x49 : Bool) (x52 : Int) (x53 : Bool) (x56 x57 x58 : Int) (x59 : Bool) (hF : fewOk x47 x48 x49 x53) (hO : onesOk x47 x52 x53) (hR : restOk x56 x57 x58 x59) : Ev (fun k => laws_FnLeastOfDigits.j8 k x47 x48 x49 x52 x53 x56 x57 x58 x59) true := by
  have h9 := j9_ev x47 x52 x53 x56 x57 x58 x59 hO hR
  refine ev_succ ?_
  simp only [laws_FnLeastOfDigits.j8]
  by_cases c : x49 = true
  · obtain ⟨⟨t, ht⟩, h1, h2, h3, h4⟩ := hF c
    refine ev_pos c (Ev.bind ht (ev_neg (by omega) (ev_neg (by omega) (ev_pos rfl ?_))))
    have fin : Ev (fun k => if x53 = true then (if x48.toList = ([49] : List UInt8) then (laws_FnLeastOfDigits.j9 k x47 x52 x53 x56 x57 x58 x59) else (some false)) else (laws_FnLeastOfDigits.j9 k x47 x52 x53 x56 x57 x58 x59)) true := by
      by_cases c3 : x53 = true
      · refine ev_pos c3 (ev_pos ?_ h9)
        rw [h4 c3]; kernel_rfl
      · exact ev_neg c3 h9
    by_cases c2 : Int.tmod x47 2 = 0
    · refine ev_pos c2 (ev_neg ?_ fin)
      rw [h3, c2]; simp
    · refine ev_neg c2 (ev_neg ?_ fin)
      rw [h3, show (Int.tmod x47 2 == 0) = false from beq_eq_false_iff_ne.mpr c2]
      simp [bne]
  · exact ev_neg c h9
theorem bytesOf_len (s : ByteArray) : (bytesOf s).length = s.size := by unfold bytesOf; rw [List.length_map, size_len]
theorem bt_mem (s : ByteArray) (c : Int) (h : c ∈ bytesOf s) : ∃ j : Nat, j < s.size ∧ bt s (j : Int) = c := by
  obtain ⟨j, hj, e⟩ := List.getElem_of_mem h
  rw [bytesOf_len] at hj
  exact ⟨j, hj, by rw [bt_at' s _ rfl j (by rw [bytesOf_len]; exact hj)]; exact e⟩
theorem l1_ev (x41 : Int) (s t : ByteArray) (hm : x41 ≠ 0) (hs : s.size ≤ 1000000 ∧ ∀ b ∈ bytesOf s, b < 128) (ht : t.size ≤ 1000000) (x47 : Int) (x48 : ByteArray) (x49 : Bool) (x52 : Int) (x53 : Bool) (x56 x57 x58 : Int) (x59 : Bool) (r : Int) (i : Nat) (hi : i < t.size)
    (h : Ev (fun k => laws_FnLeastOfDigits.l0 k x41 s t x47 x48 x49 x52 x53 x56 x57 x58 x59 (rst x41 r (bt t (i : Int))) t ((i + 1 : Nat) : Int)) true) :
    ∀ (e j : Nat) (b : Bool), j + e = s.size → (b = true ∨ ∃ j' : Nat, j ≤ j' ∧ j' < s.size ∧ bt s (j' : Int) = bt t (i : Int)) → Ev (fun k => laws_FnLeastOfDigits.l1 k x41 s t x47 x48 x49 x52 x53 x56 x57 x58 x59 r (i : Int) b t (i : Int) s (j : Int)) true := by
  intro e
  induction e with
  | zero =>
    intro j b hj hb
    have hbt : b = true := by
      rcases hb with hb | ⟨j', h1, h2, _⟩
      · exact hb
      · omega
    refine ev_succ ?_
    simp only [laws_FnLeastOfDigits.l1]
    rw [wrap_nat (i := i) (by omega)]
    exact ev_neg (by omega) (ev_pos hbt (ev_pos (by omega) (ev_pos (by omega) (ev_neg hm h))))
  | succ e ih =>
    intro j b hj hb
    refine ev_succ ?_
    simp only [laws_FnLeastOfDigits.l1]
    rw [wrap_nat (i := j) (by omega)]
    refine ev_pos (by omega) ?_
    have hlt : j < (bytesOf s).length := by rw [bytesOf_len]; omega
    refine ev_pos ⟨by rw [bt_at' s (bytesOf s) rfl j hlt]; exact hs.2 _ (List.getElem_mem hlt), by omega⟩ ?_
    by_cases c : b = true
    · exact ev_pos c (ih (j + 1) true (by omega) (.inl rfl))
    · refine ev_neg c (ev_pos (by omega) (ev_pos (by omega) (ev_pos (by omega) (ev_pos (by omega) (ih (j + 1) _ (by omega) ?_)))))
      rcases hb with hb | ⟨j', h1, h2, h3⟩
      · exact absurd hb c
      · by_cases q : j' = j
        · subst q; exact .inl (beq_iff_eq.mpr h3)
        · exact .inr ⟨j', by omega, h2, h3⟩
def textOk (m : Int) (s t : ByteArray) : Prop := (1 ≤ t.size ∧ t.size ≤ 1000000) ∧ (t.size : Int) ≤ m ∧ bt t 0 ≠ 48 ∧ (∀ b ∈ bytesOf t, b ∈ bytesOf s) ∧ (bytesOf t).foldl (rst m) 0 = 0
theorem l0_ev (x41 : Int) (s t : ByteArray) (hT : textOk x41 s t) (hs : s.size ≤ 1000000 ∧ ∀ b ∈ bytesOf s, b < 128) (x47 : Int) (x48 : ByteArray) (x49 : Bool) (x52 : Int) (x53 : Bool) (x56 x57 x58 : Int) (x59 : Bool)
    (h : Ev (fun k => laws_FnLeastOfDigits.j8 k x47 x48 x49 x52 x53 x56 x57 x58 x59) true) :
    ∀ e i : Nat, i + e = t.size → Ev (fun k => laws_FnLeastOfDigits.l0 k x41 s t x47 x48 x49 x52 x53 x56 x57 x58 x59 (((bytesOf t).take i).foldl (rst x41) 0) t (i : Int)) true := by
  obtain ⟨⟨t1, ht⟩, t2, t3, t4, t5⟩ := hT
  intro e
  induction e with
  | zero =>
    intro i hi
    refine ev_succ ?_
    simp only [laws_FnLeastOfDigits.l0]
    rw [List.take_of_length_le (by rw [bytesOf_len]; omega), t5]
    exact ev_neg (by omega) (ev_neg (by omega) (ev_pos (by omega) (ev_neg t3 (ev_pos rfl (ev_neg (by omega) h)))))
  | succ e ih =>
    intro i hi
    have hlt : i < (bytesOf t).length := by rw [bytesOf_len]; omega
    refine ev_succ ?_
    simp only [laws_FnLeastOfDigits.l0]
    refine ev_pos (by omega) ?_
    have hx := bt_at' t (bytesOf t) rfl i hlt
    refine ev_pos ⟨by rw [hx]; exact hs.2 _ (t4 _ (List.getElem_mem hlt)), by omega⟩ ?_
    have h1 := ih (i + 1) (by omega)
    rw [List.take_succ_eq_append_getElem hlt, List.foldl_append, ← hx] at h1
    obtain ⟨j, hj, he⟩ := bt_mem s _ (t4 _ (List.getElem_mem hlt))
    exact l1_ev x41 s t (by omega) hs ht x47 x48 x49 x52 x53 x56 x57 x58 x59 _ i (by omega) h1 s.size 0 false (by omega) (.inr ⟨j, by omega, hj, by rw [he, hx]⟩)
theorem j5_ev (x41 : Int) (s t : ByteArray) (x44 : Bool) (hT : x44 = true → textOk x41 s t) (hs : s.size ≤ 1000000 ∧ ∀ b ∈ bytesOf s, b < 128) (x47 : Int) (x48 : ByteArray) (x49 : Bool) (x52 : Int) (x53 : Bool) (x56 x57 x58 : Int) (x59 : Bool)
    (h : Ev (fun k => laws_FnLeastOfDigits.j8 k x47 x48 x49 x52 x53 x56 x57 x58 x59) true) : Ev (fun k => laws_FnLeastOfDigits.j5 k x41 s t x44 x47 x48 x49 x52 x53 x56 x57 x58 x59) true := by
  refine ev_succ ?_
  simp only [laws_FnLeastOfDigits.j5]
  by_cases c : x44 = true
  · exact ev_pos c (l0_ev x41 s t (hT c) hs x47 x48 x49 x52 x53 x56 x57 x58 x59 h t.size 0 (by omega))
  · exact ev_neg c h
theorem j4_ev (x36 : Int) (o : Int × Bool) (ho : o.2 = false ∨ ∃ m : Nat, 1 ≤ m ∧ m ≤ 1000000000000 ∧ o = ((m : Int), true) ∧ x36 = (prN m : Int)) (x41 : Int) (s t : ByteArray) (x44 : Bool) (x47 : Int) (x48 : ByteArray) (x49 : Bool) (x52 : Int) (x53 : Bool) (x56 x57 x58 : Int) (x59 : Bool)
    (h : Ev (fun k => laws_FnLeastOfDigits.j5 k x41 s t x44 x47 x48 x49 x52 x53 x56 x57 x58 x59) true) : Ev (fun k => laws_FnLeastOfDigits.j4 k x36 o.1 o.2 x41 s t x44 x47 x48 x49 x52 x53 x56 x57 x58 x59 false) true := by
  refine ev_succ ?_
  simp only [laws_FnLeastOfDigits.j4]
  refine ev_neg (by decide) ?_
  rcases ho with ho | ⟨m, h1, h2, rfl, rfl⟩
  · exact ev_neg (by rw [ho]; decide) h
  · exact ev_pos rfl (Ev.bind (iPOD_ev m h2) (ev_neg (by dsimp only; omega) (ev_pos rfl (ev_pos rfl h))))

/-! ### what was looked through, for all rounds -/
theorem le_top {α : Type} (g : Nat → Option α) (hg : ∀ k, LeO (g k) (g (k + 1))) (K : Nat) {r : α} (h : g K = some r) : Ev g r := Ev.of hg h
theorem list_eq {a b : ByteArray} (h : a.data.toList = b.data.toList) : a = b := by rw [of_list h, mk_data]
theorem okT_ev (m : Int) (s t : ByteArray) (b : Bool) (h : (!b || okT m s t) = true) : b = true → textOk m s t := by
  intro hb
  subst hb
  unfold okT at h
  simp only [Bool.not_true, Bool.false_or, Bool.and_eq_true, decide_eq_true_eq, Bool.not_eq_true', beq_eq_false_iff_ne, beq_iff_eq, List.all_eq_true, List.any_eq_true] at h
  obtain ⟨a1, a2, a3, a4, a5⟩ := h
  refine ⟨a1, a2, a3, fun b hb => ?_, a5⟩
  obtain ⟨c, hc, e⟩ := a4 b hb
  rw [← e]; exact hc
theorem M_ev (m : Int) (s : ByteArray) (h : chkM m s = true) : ∃ t b, Ev (fun k => impl_LeastMultiple.f k m s) (t, b) ∧ Ev (fun k => spec_LeastMultiple.f k m s) (t, b) ∧ (b = true → textOk m s t) := by
  unfold chkM at h
  split at h
  · rename_i t b t' b' e1 e2
    simp only [Bool.and_eq_true, beq_iff_eq] at h
    obtain ⟨h1, rfl, h3⟩ := h
    have := list_eq h1
    subst this
    exact ⟨t, b, Ev.of (fun k => impl_LeastMultiple.mono m s k) e1, Ev.of (fun k => spec_LeastMultiple.mono m s k) e2, okT_ev m s t b h3⟩
  · simp at h
theorem nzR_ev (k i : Int) (h : nzR k i = true) : ∃ x, x ≠ 0 ∧ Ev (fun q => impl_RestOfOnes.f q k i) (x, true) := by
  unfold nzR at h
  split at h
  · rename_i x w e
    simp only [Bool.and_eq_true, Bool.not_eq_true', beq_eq_false_iff_ne] at h
    obtain ⟨rfl, h2⟩ := h
    exact ⟨x, h2, Ev.of (fun q => impl_RestOfOnes.mono k i q) e⟩
  · simp at h
theorem ones_ev (k ones : Int) (h : chkK2 k ones = true) : Ev (fun q => impl_RestOfOnes.f q k ones) (0, true) ∧ 1 ≤ ones ∧ ones ≤ k ∧ ∀ i : Int, 1 ≤ i → i < 12 → i < ones → ∃ x, x ≠ 0 ∧ Ev (fun q => impl_RestOfOnes.f q k i) (x, true) := by
  unfold chkK2 at h
  split at h
  · rename_i z g e
    simp only [Bool.and_eq_true, beq_iff_eq, decide_eq_true_eq, List.all_eq_true, Bool.or_eq_true] at h
    obtain ⟨rfl, rfl, h1, h2, h3⟩ := h
    refine ⟨Ev.of (fun q => impl_RestOfOnes.mono k ones q) e, h1, h2, fun i i0 i1 i2 => ?_⟩
    have hm : i ∈ ([1, 2, 3, 4, 5, 6, 7, 8, 9, 10, 11] : List Int) := by
      simp only [List.mem_cons, List.not_mem_nil, or_false]; omega
    rcases h3 i hm with h | h
    · omega
    · exact nzR_ev k i h
  · simp at h
theorem few_ev (k : Int) (few : ByteArray) (b17 : Bool) (h : chkK1 k few b17 = true) : (∃ t, Ev (fun q => impl_LeastMultiple.f q k few) (t, true)) ∧ 1 ≤ few.size ∧ few.size ≤ 2 ∧ b17 = (!(Int.tmod k 2 == 0) && !(Int.tmod k 5 == 0)) ∧ (b17 = true → few = (⟨#[49]⟩ : ByteArray)) := by
  unfold chkK1 at h
  split at h
  · rename_i t g e
    rw [Bool.and_eq_true, Bool.and_eq_true, Bool.and_eq_true, Bool.and_eq_true, decide_eq_true_eq, decide_eq_true_eq, beq_iff_eq] at h
    obtain ⟨rfl, h1, h2, h3, h4⟩ := h
    refine ⟨⟨t, Ev.of (fun q => impl_LeastMultiple.mono k few q) e⟩, h1, h2, h3, fun hb => ?_⟩
    rw [hb, Bool.not_true, Bool.false_or, beq_iff_eq] at h4
    exact list_eq h4
  · simp at h
theorem K_ev (k : Int) (h : chkK k = true) : ∃ few b15 ones b17, Ev (fun q => impl_DigitsForMultiple.f q k) (few, b15) ∧ Ev (fun q => spec_DigitsForMultiple.f q k) (few, b15) ∧ Ev (fun q => impl_OnesFor.f q k) (ones, b17) ∧ Ev (fun q => spec_OnesFor.f q k) (ones, b17) ∧ (b17 = true → b15 = true) ∧ fewOk k few b15 b17 ∧ onesOk k ones b17 := by
  unfold chkK at h
  split at h
  · rename_i few b15 lst b16 e1 e2
    split at h
    · rename_i ones b17 shown b18 e3 e4
      rw [Bool.and_eq_true, Bool.and_eq_true, Bool.and_eq_true, Bool.and_eq_true, Bool.and_eq_true, Bool.and_eq_true, beq_iff_eq, beq_iff_eq, beq_iff_eq, beq_iff_eq] at h
      obtain ⟨h1, rfl, rfl, rfl, h5, h6, h7⟩ := h
      have := list_eq h1
      subst this
      refine ⟨few, b15, ones, b17, Ev.of (fun q => impl_DigitsForMultiple.mono k q) e1, Ev.of (fun q => spec_DigitsForMultiple.mono k q) e2, Ev.of (fun q => impl_OnesFor.mono k q) e3, Ev.of (fun q => spec_OnesFor.mono k q) e4, ?_, ?_, ?_⟩
      · intro c; rw [c, Bool.not_true, Bool.false_or] at h5; exact h5
      · intro c; rw [c, Bool.not_true, Bool.false_or] at h6; exact few_ev k few b17 h6
      · intro c; rw [c, Bool.not_true, Bool.false_or] at h7; exact ones_ev k ones h7
    · simp at h
  · simp at h
theorem R_ev (d many : Int) (h : chkR d many = true) : ∃ r b, Ev (fun k => impl_RestOfOnes.f k d many) (r, b) ∧ Ev (fun k => spec_RestOfOnes.f k d many) (r, b) ∧ restOk d many r b := by
  unfold chkR at h
  split at h
  · rename_i r b l b' e1 e2
    rw [Bool.and_eq_true, Bool.and_eq_true, beq_iff_eq, beq_iff_eq] at h
    obtain ⟨rfl, rfl, h3⟩ := h
    refine ⟨r, b, Ev.of (fun k => impl_RestOfOnes.mono d many k) e1, Ev.of (fun k => spec_RestOfOnes.mono d many k) e2, fun hb hm => ?_⟩
    rw [hb, Bool.not_true, Bool.false_or, decide_eq_true hm, Bool.not_true, Bool.false_or] at h3
    unfold chkR1 at h3
    split at h3
    · rename_i nx g e3
      rw [Bool.and_eq_true, Bool.and_eq_true, Bool.and_eq_true, Bool.and_eq_true, decide_eq_true_eq, decide_eq_true_eq, beq_iff_eq, Bool.not_eq_true', beq_eq_false_iff_ne] at h3
      obtain ⟨rfl, a1, a2, a3, rfl⟩ := h3
      exact ⟨a1, a2, a3, Ev.of (fun k => impl_RestOfOnes.mono d _ k) e3⟩
    · simp at h3
  · simp at h
theorem txts_small (s : ByteArray) (h : s ∈ txts) : s.size ≤ 1000000 ∧ ∀ b ∈ bytesOf s, b < 128 := by
  simp only [txts, List.mem_cons, List.not_mem_nil, or_false] at h
  rcases h with rfl | rfl | rfl | rfl | rfl | rfl | rfl | rfl | rfl | rfl | rfl | rfl <;> refine ⟨by decide, ?_⟩ <;> decide
theorem txts_two (s : ByteArray) (h : s ∈ txts) : s ∈ txtsA ∨ s = s9 := by
  simp only [txts, List.mem_cons, List.not_mem_nil, or_false] at h
  rcases h with rfl | rfl | rfl | rfl | rfl | rfl | rfl | rfl | rfl | rfl | rfl | rfl <;> first | exact .inr rfl | exact .inl (by simp [txtsA])
theorem all_M (m : Int) (s : ByteArray) (hm : m ∈ divs) (hs : s ∈ txts) : ∃ t b, Ev (fun k => impl_LeastMultiple.f k m s) (t, b) ∧ Ev (fun k => spec_LeastMultiple.f k m s) (t, b) ∧ (b = true → textOk m s t) := by
  rcases txts_two s hs with hs | rfl
  · exact M_ev m s (List.all_eq_true.mp (List.all_eq_true.mp kMall m hm) s hs)
  · have h := List.all_eq_true.mp kNall m hm
    unfold chk9 at h
    by_cases c : 1 ≤ m ∧ m ≤ 400
    · rw [if_pos c] at h
      split at h
      · rename_i t b t' b' e1 e2
        simp only [Bool.and_eq_true, beq_iff_eq] at h
        obtain ⟨h1, rfl, h3⟩ := h
        have := list_eq h1
        subst this
        exact ⟨t, b, LM9_ev m c _ e1, Ev.of (fun k => spec_LeastMultiple.mono m s9 k) e2, okT_ev m s9 t b h3⟩
      · simp at h
    · rw [if_neg c] at h
      exact M_ev m s9 h
theorem all_R (d m : Int) (hd : d ∈ divs) (hm : m ∈ manys) : chkR d m = true := List.all_eq_true.mp (List.all_eq_true.mp kRall d hd) m hm
theorem all_K (k : Int) (hk : k ∈ divs) : chkK k = true := List.all_eq_true.mp kKall k hk
theorem j3_ev (l : List Int) (hl : Bytes l) : Ev (fun k => laws_FnLeastOfDigits.j3 k l) true := by
  obtain ⟨p, d1, hp⟩ := dLP_ok l hl
  obtain ⟨o, p1, p2, p3⟩ := LWP_all p hp
  obtain ⟨m, s, d2, hm, hs⟩ := dLM_ok l hl
  obtain ⟨t, b, m1, m2, m3⟩ := all_M m s hm hs
  obtain ⟨q, d3, hq⟩ := dDM_ok l hl
  obtain ⟨few, b15, ones, b17, k1, k2, k3, k4, k5, k6, k7⟩ := K_ev q (all_K q hq)
  obtain ⟨d, many, d4, hd, hmany⟩ := dRO_ok l hl
  obtain ⟨r, b19, r1, r2, r3⟩ := R_ev d many (all_R d many hd hmany)
  have h8 := j8_ev q few b15 ones b17 d many r b19 k6 k7 r3
  have h4 := j4_ev p o p3 m s t b q few b15 ones b17 d many r b19 (j5_ev m s t b m3 (txts_small s hs) q few b15 ones b17 d many r b19 h8)
  refine ev_succ ?_
  simp only [laws_FnLeastOfDigits.j3]
  refine Ev.bind d1 (Ev.bind p1 (Ev.bind p2 (ev_bind d2 (Ev.bind m1 (Ev.bind m2 (ev_bind d3 (Ev.bind k1 (Ev.bind k2 (Ev.bind k3 (Ev.bind k4 (ev_bind d4 (Ev.bind r1 (Ev.bind r2 ?_)))))))))))))
  refine ev_neg (bne_self_not _) (ev_pos rfl (ev_neg (bne_self_not _) (ev_pos rfl (ev_neg (bne_self_not _) (ev_pos rfl (ev_neg (bne_self_not _) (ev_pos rfl (ev_neg (bne_self_not _) (ev_pos rfl ?_)))))))))
  by_cases c : b17 = true
  · refine ev_pos c ?_
    dsimp only
    rw [k5 c] at h4 ⊢
    exact h4
  · exact ev_neg c h4
theorem j2_ev (l : List Int) (hl : Bytes l) (a : Int) (o : Int × Bool) (h : o.2 = false ∨ ∃ (n : Nat) (t' : List Int), a = n ∧ n ≤ 1000000000000 ∧ Stp true (dI n) t' ∧ lead t' ∧ o = (val 0 t', true)) : Ev (fun k => laws_FnLeastOfDigits.j2 k l a o.1 o.2) true := by
  have h3 := j3_ev l hl
  refine ev_succ ?_
  simp only [laws_FnLeastOfDigits.j2]
  rcases h with h | ⟨n, t', rfl, hn, hs, hle, rfl⟩
  · exact ev_neg (by rw [h]; decide) h3
  · obtain ⟨e1, e2, e3⟩ := last_back n hn hs hle
    exact ev_pos rfl (Ev.bind e3 (ev_neg (by dsimp only; omega) (Ev.bind e2 (Ev.bind (idig_ev n (by omega)) (ev_pos rfl (ev_pos rfl (ev_pos rfl h3)))))))
theorem j1_ev (l : List Int) (a : Int) (x10 : Int) (x11 : Bool) (o : Int × Bool) (h : o.2 = false ∨ ∃ (n : Nat) (t' : List Int), a = n ∧ n ≤ 1000000000000 ∧ Stp false (dI n) t' ∧ o = (val 0 t', true)) (h2 : Ev (fun k => laws_FnLeastOfDigits.j2 k l a x10 x11) true) : Ev (fun k => laws_FnLeastOfDigits.j1 k l a o.1 o.2 x10 x11) true := by
  refine ev_succ ?_
  simp only [laws_FnLeastOfDigits.j1]
  rcases h with h | ⟨n, t', rfl, hn, hs, rfl⟩
  · exact ev_neg (by rw [h]; decide) h2
  · obtain ⟨e1, e2, e3⟩ := next_back n hn hs
    exact ev_pos rfl (Ev.bind e3 (ev_neg (by dsimp only; omega) (Ev.bind e2 (Ev.bind (idig_ev n (by omega)) (ev_pos rfl (ev_pos rfl (ev_pos rfl h2)))))))
theorem FnLeastOfDigits : laws_FnLeastOfDigits.Pure := by
  intro l0 l1 hl0 hb0 hw0 hl1 hb1 hw1
  refine Ev.rounds ?_
  unfold laws_FnLeastOfDigits.f laws_big.f
  by_cases hbig : (l0.length : Int) > 1048576
  · rw [if_pos hbig]; exact ev_bind rfl (ev_pos rfl (ev_eq fun _ => rfl))
  rw [if_neg hbig]
  by_cases hb : decide ((l1.length : Int) > wrap64 (1048576 - (l0.length : Int))) = true
  · exact ev_bind rfl (ev_pos hb (ev_eq fun _ => rfl))
  refine ev_bind rfl (ev_neg hb ?_)
  obtain ⟨a, ha0⟩ := dNext_ok l0 hw0
  have ha : spec_DrawNextSameDigits.f l0 = some a := by unfold spec_DrawNextSameDigits.f; rw [ha0]; rfl
  refine ev_bind ha ?_
  by_cases hr : 0 ≤ a ∧ a ≤ 1000000000000
  · obtain ⟨n, rfl⟩ : ∃ n : Nat, a = (n : Int) := ⟨a.toNat, by omega⟩
    have hn : n ≤ 1000000000000 := by omega
    have hd := dI_range n
    have hl := (lead_dI n).1
    obtain ⟨o, n1, n2, n3⟩ := next_ev n hn
    obtain ⟨o', q1, q2, q3⟩ := last_ev n hn
    obtain ⟨b1, b2⟩ := bothL n hn
    obtain ⟨c1, c2⟩ := bothG n hn
    have d1 := iPOD_ev n hn
    have d2 := sPOD_ev n hn
    have f1 := iPS_ev n hn
    have f2 := sPS_ev n hn
    have hLe := least_le _ (dI n) (Nat.le_refl _) hd hl
    have hLr := least_reach _ (dI n) (Nat.le_refl _) hd hl
    have hGe := greatest_le _ (dI n) (rev_dn n) hd (rev_perm n)
    have iL := idig_same n hn _ (fun x hx => hd x (hLr.2.mem_iff.mp hx)) hLr.1 hLr.2
    have iG := idig_same n hn _ (fun x hx => hd x ((rev_perm n).mem_iff.mp hx)) (rev_lead n) (rev_perm n)
    have iN := idig_ev n (by omega)
    rw [val_dI] at hLe hGe
    have ho : o.2 = decide ((n : Int) < val 0 (cs (dI n) 10).reverse) := by
      rcases n3 with ⟨rfl, h⟩ | ⟨t', h, rfl⟩
      · have := greatest_eq _ (dI n) (rev_dn n) (rev_perm n) h
        rw [val_dI] at this
        exact (decide_eq_false (by omega)).symm
      · exact (decide_eq_true (hGe.2 (fun c => dn_no c h))).symm
    have ho' : o'.2 = decide ((n : Int) > val 0 (sw (cs (dI n) 10))) := by
      rcases q3 with ⟨rfl, h⟩ | ⟨t', h, h2, rfl⟩
      · have := sw_lead hd hl h
        rw [this, val_dI]
        exact (decide_eq_false (by omega)).symm
      · exact (decide_eq_true (hLe.2 ⟨t', h, h2⟩)).symm
    have hst := rt_facts prN prN_lt n
    have hj1 : Ev (fun k => laws_FnLeastOfDigits.j1 k l1 (n : Int) o.1 o.2 o'.1 o'.2) true := by
      refine j1_ev l1 (n : Int) o'.1 o'.2 o ?_ (j2_ev l1 hw1 (n : Int) o' ?_)
      · rcases n3 with ⟨rfl, _⟩ | ⟨t', h, rfl⟩
        · exact .inl rfl
        · exact .inr ⟨n, t', rfl, hn, h, rfl⟩
      · rcases q3 with ⟨rfl, _⟩ | ⟨t', h, h2, rfl⟩
        · exact .inl rfl
        · exact .inr ⟨n, t', rfl, hn, h, h2, rfl⟩
    have hj0 : Ev (fun k => laws_FnLeastOfDigits.j0 k l1 (n : Int) o.1 o.2 o'.1 o'.2 (val 0 (sw (cs (dI n) 10))) true (val 0 (cs (dI n) 10).reverse) (prN n : Int) ((rt prN n).2 : Int) false) true := by
      refine ev_succ ?_
      simp only [laws_FnLeastOfDigits.j0]
      refine ev_neg (by decide) (ev_pos (by trivial) (ev_neg (by omega) (ev_neg (by omega) (Ev.bind iL (Ev.bind iN (ev_pos rfl (Ev.bind iG (Ev.bind iN (ev_pos rfl ?_)))))))))
      refine ev_neg (by rw [ho]; exact bne_self_not _) (ev_neg (by rw [ho']; exact bne_self_not _) (ev_neg (by omega) (ev_neg ?_ ?_)))
      · have e : (((rt prN n).2 : Int) == 0) = decide ((n : Int) < 10) := by
          by_cases c : n < 10
          · rw [decide_eq_true (by omega), beq_iff_eq]; omega
          · rw [decide_eq_false (by omega), beq_eq_false_iff_ne]; omega
        rw [e]; exact bne_self_not _
      · by_cases c : (n : Int) ≥ 10
        · have hlt := prN_lt n (by omega)
          have hs := rt_step prN (n := n) (by omega) hlt
          have g := iPS_ev (prN n) (by omega)
          refine ev_pos c (Ev.bind g (ev_pos rfl (ev_pos ?_ hj1)))
          dsimp only
          rw [hs]
          dsimp only
          have h_ := hst.2.1
          rw [hs] at h_
          dsimp only at h_
          rw [wrap_of (by omega) (by omega)]; omega
        · exact ev_neg c hj1
    refine Ev.bind n1 (Ev.bind n2 (Ev.bind q1 (Ev.bind q2 (Ev.bind b2 (Ev.bind b1 (Ev.bind c2 (Ev.bind c1 (Ev.bind d1 (Ev.bind d2 (Ev.bind f1 (Ev.bind f2 ?_)))))))))))
    refine ev_neg (bne_self_not _) (ev_pos rfl (ev_neg (bne_self_not _) (ev_pos rfl (ev_neg (bne_self_not _) (ev_pos rfl (ev_neg (bne_self_not _) (ev_pos rfl (ev_neg (bne_self_not _) (ev_pos rfl (ev_neg (bne_self_not _) (ev_pos rfl ?_)))))))))))
    by_cases e1 : o.2 = true
    · refine ev_pos e1 (ev_pos rfl ?_)
      by_cases e2 : o'.2 = true
      · exact ev_pos e2 (ev_neg (bne_self_not _) (ev_neg (bne_self_not _) hj0))
      · exact ev_neg e2 (ev_neg (bne_self_not _) (ev_neg (bne_self_not _) hj0))
    · refine ev_neg e1 ?_
      by_cases e2 : o'.2 = true
      · exact ev_pos e2 (ev_pos rfl (ev_neg (bne_self_not _) (ev_neg (bne_self_not _) hj0)))
      · exact ev_neg e2 (ev_neg (bne_self_not _) (ev_neg (bne_self_not _) hj0))
  · have hno : ¬ decide (0 ≤ a ∧ a ≤ 1000000000000) = true := by rw [decide_eq_false hr]; decide
    have n1 : Ev (fun k => impl_NextSameDigits.f k a) (0, false) := by unfold impl_NextSameDigits.f; exact ev_bind (isLeast_eq _) (ev_neg hno (ev_eq fun _ => rfl))
    have n2 : Ev (fun k => spec_NextSameDigits.f k a) (0, false) := by unfold spec_NextSameDigits.f; exact ev_bind (leNumber_eq _) (ev_neg hno (ev_eq fun _ => rfl))
    have q1 : Ev (fun k => impl_LastSameDigits.f k a) (0, false) := by unfold impl_LastSameDigits.f; exact ev_bind (isLeast_eq _) (ev_neg hno (ev_eq fun _ => rfl))
    have q2 : Ev (fun k => spec_LastSameDigits.f k a) (0, false) := by unfold spec_LastSameDigits.f; exact ev_bind (leNumber_eq _) (ev_neg hno (ev_eq fun _ => rfl))
    have b2 : Ev (fun k => impl_LeastSameDigits.f k a) (0, false) := by unfold impl_LeastSameDigits.f; exact ev_bind (isLeast_eq _) (ev_neg hno (ev_eq fun _ => rfl))
    have b1 : Ev (fun k => spec_LeastSameDigits.f k a) (0, false) := by unfold spec_LeastSameDigits.f; exact ev_bind (leNumber_eq _) (ev_neg hno (ev_eq fun _ => rfl))
    have c2 : Ev (fun k => impl_GreatestSameDigits.f k a) (0, false) := by unfold impl_GreatestSameDigits.f; exact ev_bind (isLeast_eq _) (ev_neg hno (ev_eq fun _ => rfl))
    have c1 : Ev (fun k => spec_GreatestSameDigits.f k a) (0, false) := by unfold spec_GreatestSameDigits.f; exact ev_bind (leNumber_eq _) (ev_neg hno (ev_eq fun _ => rfl))
    have isw : impl_isWritten.f a = some (decide (0 ≤ a ∧ a ≤ 1000000000000)) := by unfold impl_isWritten.f; rw [within_eq]; rfl
    have d1 : Ev (fun k => impl_ProductOfDigits.f k a) (0, false) := by
      unfold impl_ProductOfDigits.f impl_DigitProduct.f
      exact Ev.bind (a := ((0 : Int), false)) (ev_bind isw (ev_neg hno (ev_eq fun _ => rfl))) (ev_eq fun _ => rfl)
    have d2 : Ev (fun k => spec_ProductOfDigits.f k a) (0, false) := by unfold spec_ProductOfDigits.f; exact ev_bind (leNumber_eq _) (ev_neg hno (ev_eq fun _ => rfl))
    have f1 : Ev (fun k => impl_ProductSteps.f k a) (0, false) := by
      unfold impl_ProductSteps.f impl_ProductEnd.f
      exact Ev.bind (a := ((0 : Int), (0 : Int), false)) (ev_bind isw (ev_neg hno (ev_eq fun _ => rfl))) (ev_eq fun _ => rfl)
    have f2 : Ev (fun k => spec_ProductSteps.f k a) (0, false) := by unfold spec_ProductSteps.f; exact ev_bind (leNumber_eq _) (ev_neg hno (ev_eq fun _ => rfl))
    refine Ev.bind n1 (Ev.bind n2 (Ev.bind q1 (Ev.bind q2 (Ev.bind b2 (Ev.bind b1 (Ev.bind c2 (Ev.bind c1 (Ev.bind d1 (Ev.bind d2 (Ev.bind f1 (Ev.bind f2 ?_)))))))))))
    refine ev_neg (bne_self_not _) (ev_pos rfl (ev_neg (bne_self_not _) (ev_pos rfl (ev_neg (bne_self_not _) (ev_pos rfl (ev_neg (bne_self_not _) (ev_pos rfl (ev_neg (bne_self_not _) (ev_pos rfl (ev_neg (bne_self_not _) (ev_pos rfl ?_)))))))))))
    refine ev_neg (by decide) (ev_neg (by decide) (ev_neg (bne_self_not _) (ev_neg (bne_self_not _) ?_)))
    refine ev_succ ?_
    simp only [laws_FnLeastOfDigits.j0]
    refine ev_neg (by decide) (ev_neg (by decide) ?_)
    exact j1_ev l1 a 0 false (0, false) (.inl rfl) (j2_ev l1 hw1 a (0, false) (.inl rfl))
end Go.Proofs.YtjnfaidngaobmaaGreatDoor.Pure
